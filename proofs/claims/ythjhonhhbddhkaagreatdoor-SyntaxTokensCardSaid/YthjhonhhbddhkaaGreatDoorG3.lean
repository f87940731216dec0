/- Texts of this claim, side by side. -/
import Derived.Test.YthjhonhhbddhkaaGreatDoorG2
import Derived.Laws.Strings
import Derived.Test.YthjhonhhbddhkaaGreatDoorProg
import Derived.KernelRfl
namespace Go.Ev
open Go.RowKit (Below)
noncomputable section
set_option maxRecDepth 100000
set_option linter.unusedVariables false
set_option linter.unusedSimpArgs false
section
variable {P:Program}{W w w' w1:World}{f fn:FuncId}{cs cs0:List Frame}{r r1:Rt}{fr fr' fr1:Frame}{φ φ' φ1:cA}{H H' H1:T OB}{nx nx' aC nt lo hi:Nat}{tm:T Value}{tmps:Array Value}{ops:Array Oper}
 {todo k:List Item} {c:Cg} {ds:List Deferred} {kd:Bool} {O:bE->Option Rt} {pl:jf}
theorem c_.Tg {rc:Bool}{fr1:Frame}(hm:fr.mode= .run)(hs:step P (lone fr (dY rc cs0) w)= .next (lone fr1 (dY rc cs0) w))(h:c_ P W kd fn lo cs0 rc φ H r fr w):c_ P W kd fn lo cs0 rc φ H r fr1 w:=by
 obtain⟨φ',w',frl,⟨n,hn⟩,h2,h3,h4,h5,h6,h7,h8⟩:=h
 refine⟨φ',w',frl,?_,h2,h3,h4,h5,h6,h7,h8⟩
 cases n with
 | zero=>
   exfalso
   have hn:Stepped.next (lone fr (dY rc cs0) w)= .next (lone frl (dY r.rc cs0) w'):=hn
   have e:fr.mode=frl.mode:=by
    injection hn with hn
    simp only[lone]at hn
    simp_all
   rw[hm]at e
   cases hr:r.o with
   | ret v=>rw[hr]at h8;obtain⟨v',_,hg⟩:=h8;rw[hg.1]at e;cases e
   | fR v=>rw[hr]at h8;obtain⟨v',_,hg⟩:=h8;rw[hg.1]at e;cases e
 | succ n=>
   refine⟨n,?_⟩
   simp only[runN,hs]at hn
   exact hn
theorem nv (t:Nat)(v:Value):∀l:List Nat,(sM tm l).get (bits t)=some v->tm.get (bits t)=some v
 | [],h=>by rw[show sM tm []= .leaf from rfl,iH]at h;cases h
 | s::l,h=>by
   have h:(aa (tm.get (bits s)) (λv=>da (bits s) (sM tm l) (some v) id) (sM tm l)).get (bits t)=some v:=h
   cases hs:tm.get (bits s)with
   | none=>rw[hs]at h;exact nv t v l h
   | some u=>
     have h2:(set (sM tm l) (bits s) (some u)).get (bits t)=some v:=by
      rw[hs,aJ,a_]at h
      exact h
     clear h
     rw[get_at]at h2
     split at h2
     . rename_i q;subst q;exact hs.trans h2
     . exact nv t v l h2
theorem D_ {key:Nat}{t:Nat}{v:Value}(h:(wV pl fn key tm).get (bits t)=some v):tm.get (bits t)=some v:=by
 unfold wV at h
 split at h
 . exact h
 . cases hl:EF fn key _ with
   | none=>rw[hl]at h;exact h
   | some l=>rw[hl]at h;exact nv t v l h
theorem mq.mask {key:Nat}(h:mq P W c (wV pl fn key tm) todo H nx r):mq P W c tm todo H nx r:=λφ w lo tmps ds cs0 x htr=>
 h φ w lo tmps ds cs0 x λt v hv=>htr t v (D_ hv)
theorem mr (hO:jH P W O)(todo:List Item):AH P W O (wW pl todo) todo:=λc tm H nx r h=>
 mq.mask (show mq P W c (wV pl c.fn (M6 todo) tm) todo H nx r from hO _ _ (E9 h))
theorem AJ (todo:List Item):AH P W O yV todo:=λc tm H nx r h=>(gm h).elim
def LD (P:Program)(W:World)(O:bE->Option Rt)(E:List (Nat×Kt))(k:List Item):Prop:=∀id,qd id E=yV\/∃k',exitTo id k=some k'/\AH P W O (qd id E) k'
theorem LD.skip {E:List (Nat×Kt)}{it:Item}(h:LD P W O E k)(hit:∀id,exitTo id (it::k)=exitTo id k):LD P W O E (it::k):=λj=>(h j).imp (λq=>q) λ⟨k',a,b⟩=>⟨k',(hit j).trans a,b⟩
theorem LD.block {E:List (Nat×Kt)}{K:Kt}{id:Nat}(h:LD P W O E k)(hK:AH P W O K k):LD P W O ((id,K)::E) (.inBlock id::k):=λj=>by
 have e:qd j ((id,K)::E)=bif Nat.beq id j then K else qd j E:=rfl
 have e2:exitTo j (.inBlock id::k)=if id == j then some k else exitTo j k:=rfl
 rw[e,e2]
 cases hb:Nat.beq id j with
 | true=>
   have:=beq_eq hb
   subst this
   exact .inr ⟨k,by simp,hK⟩
 | false=>
   have hne:(id == j)=false:=by
    cases hq:id == j with
    | false=>rfl
    | true=>have:id=j:=by simpa using hq
            subst this;rw[Nat.beq_refl]at hb;cases hb
   rw[hne]
   exact h j
theorem I0 (hO:jH P W O){K:Kt}(hK:AH P W O K k)(id:Nat)(ops:Array Oper)(draw:Bool):AH P W O (M4 P pl ops draw K) (.code (.region id ops draw)::k):=λc tm H nx r h=>by
 unfold M4 at h
 rcases ec h with⟨hd,h1⟩ | ⟨hd,h1⟩
 . rcases ec h1 with⟨hm,h2⟩ | ⟨_,h2⟩
   . obtain⟨p,hp,h3⟩:=bH h2
     subst hd
     intro φ w lo tmps ds cs0 x htr
     have hs:=step_region_draw (P:=P) (b:=dp (cq c ds) #[] []) (a:=⟨tmps,ds⟩) (k:=k) (cs:=dY c.rc cs0) (w:=w) (ops:=ops) (id:=id)
     rw[hm]at hs
     have x':Fx P W lo cs0 c φ H nx tmps ds w.drew:=⟨x.hH.drew,x.bW,x.j5,x.j4,x.uh,x.qy⟩
     obtain⟨h1,h2⟩:=eY.start (P:=P) (φ:=φ) (H:=H) hp (w.tape w.drawn (.order (dp (cq c ds) #[] []).fn id)) htr lo nx
     exact c_.steps (.one hs) φ.le_refl (λ_ _ q=>⟨q,rfl⟩) (qP hO hK p tm H nx φ tmps _ _ _ _ _ h3 x' h1 h2)
   . exact(gm h2).elim
 . subst hd
   exact(kb hO hK _ c tm H nx r h1).step1 λds tmps cs w=> .one (step_region (b:=dp (cq c ds) #[] []) (a:=⟨tmps,ds⟩))
theorem qQ (hO:jH P W O)(cd:Code):∀(k:List Item) (K:Kt) (E:List (Nat×Kt)),AH P W O K k->LD P W O E k->AH P W O (sN P pl cd k K E) (.code cd::k):=by
 induction cd with
 | skip=>exact λk K E hK hE c tm H nx r h=>(hK c tm H nx r h).step1 λds tmps cs w=> .one (step_skip (b:=dp (cq c ds) #[] []) (a:=⟨tmps,ds⟩))
 | label l=>exact λk K E hK hE c tm H nx r h=>(hK c tm H nx r h).step1 λds tmps cs w=> .one (step_label (b:=dp (cq c ds) #[] []) (a:=⟨tmps,ds⟩))
 | ret=>exact λk K E hK hE=>nu hO (.inr ⟨k,rfl⟩)
 | region id ops draw=>exact λk K E hK hE=>I0 hO hK id ops draw
 | seq a b iha ihb=>
   intro k K E hK hE c tm H nx r h
   refine mq.step1 (λds tmps cs w=> .one (step_seq (b:=dp (cq c ds) #[] []) (a:=⟨tmps,ds⟩))) (iha (.code b::k) _ E ?_ (hE.skip λ_=>rfl) c tm H nx r h)
   cases hq:QJ pl a b with
   | true=>exact mr hO _
   | false=>exact ihb k K E hK hE
 | cond q a b iha ihb=>
   intro k K E hK hE c tm H nx r h φ w lo tmps ds cs0 x htr
   have h:(EG (bz P tm q) (sN P pl a k K E c tm H nx) (sN P pl b k K E c tm H nx)).run O=some r:=h
   unfold EG at h
   split at h
   . rename_i t hx
     have he:Act.eval ⟨tmps,ds⟩ q= .bool t:=by
      rw[xn]
      exact((uf x.hH.gl htr (l:=[q]) Fc) q (by simp) _ hx).aG rfl
     have hs:=step_cond (P:=P) (b:=dp (cq c ds) #[] []) (a:=⟨tmps,ds⟩) (k:=k) (cs:=dY c.rc cs0) (w:=w) (x:=a) (y:=b) he
     rcases ec h with⟨rfl,h⟩ | ⟨rfl,h⟩
     . exact(iha k K E hK hE c tm H nx r h φ w lo tmps ds cs0 x htr).step1 (.one hs)
     . exact(ihb k K E hK hE c tm H nx r h φ w lo tmps ds cs0 x htr).step1 (.one hs)
   . exact(gm h).elim
 | block id body ih=>
   intro k K E hK hE c tm H nx r h
   refine mq.step1 (λds tmps cs w=> .one (step_block (b:=dp (cq c ds) #[] []) (a:=⟨tmps,ds⟩))) (ih (.inBlock id::k) K ((id,K)::E) (λc tm H nx r h=> ?_) (hE.block hK) c tm H nx r h)
   exact(hK c tm H nx r h).step1 λds tmps cs w=> .one (step_inBlock (b:=dp (cq c ds) #[] []) (a:=⟨tmps,ds⟩))
 | loop body ih=>
   intro k K E hK hE c tm H nx r h φ w lo tmps ds cs0 x htr
   have h1:=mr (pl:=pl) hO (.inLoop body::k) c tm H nx r h φ w lo tmps ds cs0 x htr
   exact(h1.Tg rfl (step_inLoop (b:=dp (cq c ds) #[] []) (a:=⟨tmps,ds⟩))).step1 (.one (step_loop (b:=dp (cq c ds) #[] []) (a:=⟨tmps,ds⟩)))
 | scope body ih=>
   intro k K E hK hE c tm H nx r h
   refine mq.step1 (λds tmps cs w=> .one (step_scope (b:=dp (cq c ds) #[] []) (a:=⟨tmps,ds⟩))) (ih (.inScope body::k) K E (λc tm H nx r h=> ?_) (hE.skip λ_=>rfl) c tm H nx r h)
   exact(hK c tm H nx r h).step1 λds tmps cs w=> .one (step_inScope (b:=dp (cq c ds) #[] []) (a:=⟨tmps,ds⟩))
 | exit id=>
   intro k K E hK hE c tm H nx r h
   have h:(qd id E c tm H nx).run O=some r:=h
   rcases hE id with q | ⟨k',hk',hK'⟩
   . rw[q]at h;exact(gm h).elim
   . exact(hK' c tm H nx r h).step1 λds tmps cs w=> .one (step_exit (b:=dp (cq c ds) #[] []) (a:=⟨tmps,ds⟩) hk')
 | _=>exact λk K E hK hE=>AJ _
theorem zp (hO:jH P W O):∀todo:List Item,AH P W O (S1 P pl todo).1 todo/\LD P W O (S1 P pl todo).2 todo
 | []=>⟨nu hO (.inl rfl),λid=> .inl rfl⟩
 | it::k=>by
   obtain⟨h1,h2⟩:=zp hO k
   cases it with
   | code cd=>exact⟨qQ hO cd k _ _ h1 h2,h2.skip λ_=>rfl⟩
   | inBlock id=>exact⟨λc tm H nx r h=>(h1 c tm H nx r h).step1 λds tmps cs w=> .one (step_inBlock (b:=dp (cq c ds) #[] []) (a:=⟨tmps,ds⟩)),h2.block h1⟩
   | inScope b=>exact⟨λc tm H nx r h=>(h1 c tm H nx r h).step1 λds tmps cs w=> .one (step_inScope (b:=dp (cq c ds) #[] []) (a:=⟨tmps,ds⟩)),h2.skip λ_=>rfl⟩
   | inLoop body=>exact⟨mr hO _,h2.skip λ_=>rfl⟩
   | _=>exact⟨AJ _,λid=> .inl rfl⟩
theorem I1 (hO:jH P W O)(todo:List Item):AH P W O (M7 P pl todo) todo:=by
 unfold M7
 split
 . rename_i body k
   intro c tm H nx r h
   exact mq.step1 (λds tmps cs w=> .one (step_inLoop (b:=dp (cq c ds) #[] []) (a:=⟨tmps,ds⟩))) (qQ hO body _ _ _ (mr hO _) ((zp hO k).2.skip λ_=>rfl) c tm H nx r h)
 . exact(zp hO todo).1
theorem No (hO:jH P W O):∀q r,(aN P pl q).run O=some r->Fb P W q r
 | .at c tm todo H nx,r,h=>I1 hO todo c tm H nx r h
 | .call f args kd rp H nx,r,h=>λφ w args' cs0 hH bW hl qy=>by
   obtain⟨fd,hf,h⟩:=bH (show(aa P.funcs[f]? (λfn=>aa fn.body (λcd=>Te P pl f kd rp fn cd args H nx) .bad) .bad).run O=some r from h)
   obtain⟨cd,hb,h⟩:=bH h
   unfold Te at h
   obtain⟨hn,h⟩:=kL h
   have hn:=cL hn
   obtain⟨φ1,us,H1,aC,h,hl1,hz⟩:=lL fd.params _ _ _ φ H nx hH bW hl h
   rw[cW]at h
   have hlen:=hl.len
   have hlen1:=hl1.len
   have e:Frame.enter P f args'.toArray (kindOf kd)=dp (cq ⟨f,fd.ntmps,kd,[],rp,false⟩ []) (args'.toArray++Array.replicate (fd.ntmps-args'.toArray.size) undef) [.code cd]:=by
    simp[Frame.enter,hf,hb,dp,cq]
   rw[e]
   have hx:Fx P W nx cs0 ⟨f,fd.ntmps,kd,[],rp,false⟩ φ1 H1 aC (args'.toArray++Array.replicate (fd.ntmps-args'.toArray.size) undef) [] w:=⟨hz.2.1,hz.2.2.1,hz.2.2.2.2,by
    show(args'.toArray++Array.replicate (fd.ntmps-args'.toArray.size) undef).size=fd.ntmps
    simp only[Array.size_append,List.size_toArray,Array.size_replicate]
    omega,.nil,qy.mono hz.1⟩
   refine hz.fin (qQ hO cd [] _ [] (nu hO (.inl rfl)) (λid=> .inl rfl) _ _ _ _ r h φ1 w nx _ [] cs0 hx ?_)
   intro t v hv
   rw[dr]at hv
   split at hv
   . rename_i ht
     rw[Nat.sub_zero]at hv
     obtain⟨v',h1,h2⟩:=hl1.get hv
     refine .inr ⟨v',?_,h2⟩
     have:t<args'.toArray.size:=by simp;omega
     rw[Array.getElem?_append_left this]
     simpa using h1
   . rw[iH]at hv;cases hv
def xC (P:Program)(W:World)(X:Ext):Prop:=∀f args v,X f args=some v->(∀x∈args,flat x=true)/\flat v=true/\
 ∀w,Below W.heap.size W w->Calls P f args.toArray w λe w'=>e= .returned v/\Below w.heap.size w w'
theorem LR.aG {l l':List Value}(h:LR φ l l')(hf:∀x∈l,flat x=true):l'=l:=by
 refine List.ext_getElem? λi=> ?_
 by_cases hi:i<l.length
 . have h5:=List.getElem?_eq_getElem hi
   have h6:=List.getElem?_eq_getElem (h.len ▸ hi:i<l'.length)
   rw[h5,h6,(h.at_ i _ _ h5 h6).aG (hf _ (List.getElem_mem hi))]
 . rw[List.getElem?_eq_none (by have:=h.len;omega),List.getElem?_eq_none (by omega)]
theorem Np {X:Ext}(hX:xC P W X){f:FuncId}{args:List Value}{v:Value}(h:X f args=some v)(rp:Option Value)(H:T OB)(nx:Nat):Fb P W (.call f args false rp H nx) ⟨.ret v,false,H,nx⟩:=λφ w args' cs0 hH bW hl _=>by
 obtain⟨h1,h2,h3⟩:=hX f args v h
 have:=hl.aG h1
 subst this
 obtain⟨e,w',fr,⟨he,hb⟩,hc,hfn,hlv⟩:=h3 w hH.below cs0
 subst he
 obtain⟨a,b,hk,d⟩:=hlv
 exact⟨φ,w',fr,hc,φ.le_refl,hH.grown hb,bW,λk _ q=>⟨q,rfl⟩,hk,hfn,v,.flat v h2,a,b,d⟩
theorem xD {X:Ext}{q:bE}{k:Option Rt}(h:na X q k=some r):k=some r\/∃f args rp H nx v,q= .call f args false rp H nx/\X f args=some v/\r=⟨.ret v,false,H,nx⟩:=by
 cases q with
 | «at» c tm todo H nx=>exact .inl h
 | call f args kd rp H nx=>
   cases kd with
   | true=>exact .inl h
   | false=>
     have h:@Option.rec Value (λ_=>Option Rt) k (λv=>some ⟨.ret v,false,H,nx⟩) (X f args)=some r:=h
     cases hx:X f args with
     | none=>rw[hx]at h;exact .inl h
     | some v=>rw[hx]at h;cases h;exact .inr ⟨f,args,rp,H,nx,v,rfl,hx,rfl⟩
theorem mu (pl:jf)(X:Ext)(n:Nat)(q:bE):FD P pl X (n+1) q=na X q ((aN P pl q).run (FD P pl X n)):=rfl
theorem LF {X:Ext}(hX:xC P W X):∀n,jH P W (FD P pl X n)
 | 0,q,r,h=>by cases h
 | n+1,q,r,h=>by
   rw[mu]at h
   rcases xD h with h | ⟨f,args,rp,H,nx,v,rfl,hx,rfl⟩
   . exact No (LF hX n) q r h
   . exact Np hX hx rp H nx
theorem Q.qR {O O':bE->Option Rt}(hO:∀q r,O q=some r->O' q=some r):∀(q:Q) (r:Rt),q.run O=some r->q.run O'=some r:=by
 intro q
 induction q with
 | ret a=>exact λr h=>h
 | bad=>exact λr h=>h
 | jump c=>exact λr h=>hO c r h
 | ask c k ih=>
   intro r h
   obtain⟨a,h1,h2⟩:=mn h
   show aa (O' c) (λa=>(k a).run O') none=some r
   rw[hO c a h1]
   exact ih a r h2
theorem tb {X:Ext}{q:bE}{k k':Option Rt}(hk:∀r,k=some r->k'=some r)(h:na X q k=some r):na X q k'=some r:=by
 cases q with
 | «at» c tm todo H nx=>exact hk r h
 | call f args kd rp H nx=>
   cases kd with
   | true=>exact hk r h
   | false=>
     have h:@Option.rec Value (λ_=>Option Rt) k (λv=>some ⟨.ret v,false,H,nx⟩) (X f args)=some r:=h
     show @Option.rec Value (λ_=>Option Rt) k' (λv=>some ⟨.ret v,false,H,nx⟩) (X f args)=some r
     cases hx:X f args with
     | none=>rw[hx]at h;exact hk r h
     | some v=>rw[hx]at h;exact h
theorem xE {X:Ext}:∀(n:Nat) (q:bE) (r:Rt),FD P pl X n q=some r->FD P pl X (n+1) q=some r
 | 0,q,r,h=>by cases h
 | n+1,q,r,h=>by
   rw[mu]at h ⊢
   exact tb (λr h=>Q.qR (xE n) _ r h) h
theorem oS {X:Ext}{n m:Nat}(hn:n<=m){q:bE}{r:Rt}(h:FD P pl X n q=some r):FD P pl X m q=some r:=by
 induction hn with
 | refl=>exact h
 | step _ ih=>exact xE _ q r ih
open Classical in
def F (P:Program)(pl:jf)(X:Ext)(q:bE):Option Rt:=if h:∃r n,FD P pl X n q=some r then some h.choose else none
theorem nY {X:Ext}{q:bE}:F P pl X q=some r↔∃n,FD P pl X n q=some r:=by
 unfold F
 constructor
 . intro h
   split at h
   . rename_i hx
     cases h
     exact hx.choose_spec
   . cases h
 . rintro⟨n,hn⟩
   have hx:∃r n,FD P pl X n q=some r:=⟨r,n,hn⟩
   rw[dif_pos hx]
   obtain⟨m,hm⟩:=hx.choose_spec
   have h1:=oS (Nat.le_max_left n m) hn
   have h2:=oS (Nat.le_max_right n m) hm
   rw[h1]at h2
   cases h2
   rfl
theorem Q.I2 {X:Ext}:∀(q:Q) (r:Rt),q.run (F P pl X)=some r->∃n,q.run (FD P pl X n)=some r:=by
 intro q
 induction q with
 | ret a=>exact λr h=>⟨0,h⟩
 | bad=>exact λr h=>(gm h).elim
 | jump c=>exact λr h=>nY.1 h
 | ask c k ih=>
   intro r h
   obtain⟨a,h1,h2⟩:=mn h
   obtain⟨n,hn⟩:=nY.1 h1
   obtain⟨m,hm⟩:=ih a r h2
   refine⟨max n m,?_⟩
   show aa (FD P pl X (max n m) c) (λa=>(k a).run (FD P pl X (max n m))) none=some r
   rw[oS (Nat.le_max_left n m) hn]
   exact Q.qR (λq r h=>oS (Nat.le_max_right n m) h) _ r hm
theorem oI {X:Ext}(q:bE):F P pl X q=na X q ((aN P pl q).run (F P pl X)):=by
 have up:∀r,F P pl X q=some r->na X q ((aN P pl q).run (F P pl X))=some r:=λr h=>by
  obtain⟨n,hn⟩:=nY.1 h
  cases n with
  | zero=>cases hn
  | succ n=>
    rw[mu]at hn
    exact tb (λr h=>Q.qR (λq r h=>nY.2 ⟨n,h⟩) _ r h) hn
 have down:∀r,na X q ((aN P pl q).run (F P pl X))=some r->F P pl X q=some r:=λr h=>by
  rcases xD h with h | ⟨f,args,rp,H,nx,v,rfl,hx,rfl⟩
  . obtain⟨n,hn⟩:=Q.I2 _ r h
    cases hF:na X q ((aN P pl q).run (FD P pl X n))with
    | none=>
      exfalso
      rw[hn]at hF
      cases q with
      | «at» c tm todo H nx=>cases hF
      | call f args kd rp H nx=>
        cases kd with
        | true=>cases hF
        | false=>
          have hF:@Option.rec Value (λ_=>Option Rt) (some r) (λv=>some ⟨.ret v,false,H,nx⟩) (X f args)=none:=hF
          cases hx:X f args<;>rw[hx]at hF<;>cases hF
    | some r'=>
      have h1:F P pl X q=some r':=nY.2 ⟨n+1,by rw[mu];exact hF⟩
      have h2:=up r' h1
      have h3:na X q ((aN P pl q).run (F P pl X))=some r:=by assumption
      rw[h2]at h3
      cases h3
      exact h1
  . refine nY.2 ⟨1,?_⟩
    rw[mu]
    show @Option.rec Value (λ_=>Option Rt) _ (λv=>some ⟨.ret v,false,H,nx⟩) (X f args)=_
    rw[hx]
 cases h:F P pl X q with
 | some r=>exact(up r h).symm
 | none=>
   cases h2:na X q ((aN P pl q).run (F P pl X))with
   | none=>rfl
   | some r=>rw[down r h2]at h;cases h
theorem Th {X:Ext}{n:Nat}{q:bE}(h:FD P pl X n q=some r):F P pl X q=some r:=nY.2 ⟨n,h⟩
theorem qS {X:Ext}(hX:xC P W X){f:FuncId}{args args':List Value}{v:Value}{H':T OB}{nx':Nat}(hH:HR P W φ (hp H) W)(bW:φ.length=nx)(hl:LR φ args args')(hv:flat v=true)
 (h:F P pl X (.call f args false none H nx)=some ⟨.ret v,false,H',nx'⟩):Calls P f args'.toArray W λe w'=>e= .returned v/\Below W.heap.size W w':=by
 intro cs
 obtain⟨n,hn⟩:=nY.1 h
 obtain⟨φ1,w1,frl,s1,hle,hH1,hl1,hk1,hkk,hff,v',hv',hg⟩:=LF hX n _ _ hn φ W args' cs hH bW hl (λq=>by cases q)
 have:=hv'.aG hv
 subst this
 obtain⟨a,b,d⟩:=hg
 exact⟨.returned v',w1,frl,⟨rfl,hH1.below⟩,s1,hff,a,b,hkk,d⟩
end
end
end Go.Ev
namespace Go.Ev
noncomputable section
set_option maxRecDepth 100000
set_option linter.unusedVariables false
set_option linter.unusedSimpArgs false
section
def aP (l:List (Nat×Value)):T Value:=@List.rec (Nat×Value) (λ_=>T Value) .leaf (λp _ ih=>da (bits p.1) ih (some p.2) id) l
def Nq (cd:Code):List Item->List (List Item):=
 @Code.rec (λ_=>List Item->List (List Item)) (λ_=>[]) (λ_ _ _ _=>[]) (λ_ b iha ihb k=>iha (.code b::k)++((.code b::k)::ihb k)) (λ_ _ _ iha ihb k=>iha k++ihb k) (λid _ ih k=>ih (.inBlock id::k))
  (λb ih k=>(.inLoop b::k)::ih (.inLoop b::k)) (λ_ _ _ _ _ _ _=>[]) (λ_ _=>[]) (λb ih k=>ih (.inScope b::k)) (λ_ _=>[]) (λ_ _=>[]) (λ_=>[]) (λ_ _=>[]) cd
def QT (key:Nat)(l:List (List Item)):List Item:=@List.rec (List Item) (λ_=>List Item) [] (λt _ ih=>bif Nat.beq (M6 t) key then t else ih) l
def ay (P:Program)(f:FuncId)(key:Nat):List Item:=match P.funcs[f]? with
 | some fn=>(match fn.body with
   | some cd=>QT key (Nq cd [])
   | none=>[])
 | none=>[]
def bC (P:Program)(H:T OB)(nx:Nat)(t:TypeId)(a:Option Value)(v:Value)(k:T OB->Nat->Q):Q:=
 IH a λb off=>lB (H.get (bits b)) λn _ _=>aa (bh P t) (λs=>
  bif Nat.beq off 0&&(Nat.beq n s&&(Nat.beq v.cells.toList.length s&&v.cells.toList.all ax))then da (bits b) H (some .dead) λH=>bF (Nat.succ nx) λn=>k H n else .bad) .bad
variable {P:Program}{pl:jf}{X:Ext}{H H0 H1:T OB}{nx nx0 aC:Nat}{v u:Value}{R:Go.Ev.Out->T OB->Nat->Prop}
def Ag (nx0:Nat)(H0:T OB)(nx:Nat)(H:T OB):Prop:=nx0<=nx/\∀k,k<nx0->hp H k=hp H0 k
theorem Ag.refl (nx:Nat)(H:T OB):Ag nx H nx H:=⟨Nat.le_refl _,λ_ _=>rfl⟩
theorem Ag.trans (h:Ag nx0 H0 nx H)(h':Ag nx H aC H1):Ag nx0 H0 aC H1:=⟨Nat.le_trans h.1 h'.1,λk hk=>(h'.2 k (Nat.lt_of_lt_of_le hk h.1)).trans (h.2 k hk)⟩
theorem Ag.set (h:Ag nx0 H0 nx H){b:Nat}(hb:nx0<=b)(x:Option OB):Ag nx0 H0 nx (Ev.set H (bits b) x):=⟨h.1,λk hk=>by rw[bB,aY _ (by omega)];exact h.2 k hk⟩
theorem Ag.succ (h:Ag nx0 H0 nx H):Ag nx0 H0 (nx+1) H:=⟨Nat.le_succ_of_le h.1,h.2⟩
def aK (P:Program)(pl:jf)(X:Ext)(q:Q)(nx0:Nat)(H0:T OB)(R:Go.Ev.Out->T OB->Nat->Prop):Prop:=∃o H' nx',Ag nx0 H0 nx' H'/\R o H' nx'/\q.run (F P pl X)=some ⟨o,false,H',nx'⟩
abbrev uj (P:Program)(pl:jf)(X:Ext)(q:Q)(nx0:Nat)(H0:T OB)(R:Value->T OB->Nat->Prop):Prop:=aK P pl X q nx0 H0 λo H nx=>∃v,o= .ret v/\R v H nx
abbrev Wq (P:Program)(pl:jf)(X:Ext)(q:Q)(nx0:Nat)(H0:T OB)(v:Value):Prop:=uj P pl X q nx0 H0 λu _ _=>u=v
def Pure (P:Program)(pl:jf)(X:Ext)(f:FuncId)(args:List Value)(v:Value):Prop:=∀H nx,∃H' nx',Ag nx H nx' H'/\F P pl X (.call f args false none H nx)=some ⟨.ret v,false,H',nx'⟩
theorem Pure.of {f:FuncId}{args:List Value}(hx:X f args=none)(h:∀H nx,Wq P pl X (aN P pl (.call f args false none H nx)) nx H v):Pure P pl X f args v:=λH nx=>by
 obtain⟨_,H',nx',h1,⟨_,rfl,rfl⟩,h2⟩:=h H nx
 refine⟨H',nx',h1,?_⟩
 rw[oI]
 show @Option.rec Value (λ_=>Option Rt) _ (λv=>some ⟨.ret v,false,H,nx⟩) (X f args)=_
 rw[hx]
 exact h2
theorem Pure.ext {f:FuncId}{args:List Value}(hx:X f args=some v):Pure P pl X f args v:=λH nx=>⟨H,nx,.refl _ _,by
 rw[oI]
 show @Option.rec Value (λ_=>Option Rt) _ (λv=>some ⟨.ret v,false,H,nx⟩) (X f args)=_
 rw[hx]⟩
theorem Wq.ret (h:Ag nx0 H0 nx H):Wq P pl X (.ret ⟨.ret v,false,H,nx⟩) nx0 H0 v:=⟨.ret v,H,nx,h,⟨v,rfl,rfl⟩,rfl⟩
theorem Wq.jM {o:Go.Ev.Out}(h:Ag nx0 H0 nx H)(hR:R o H nx):aK P pl X (.ret ⟨o,false,H,nx⟩) nx0 H0 R:=⟨o,H,nx,h,hR,rfl⟩
theorem Wq.Ti {R:Value->T OB->Nat->Prop}(h:Ag nx0 H0 nx H)(hR:R v H nx):uj P pl X (.ret ⟨.ret v,false,H,nx⟩) nx0 H0 R:=⟨.ret v,H,nx,h,⟨v,rfl,hR⟩,rfl⟩
theorem Wq.jump {q:bE}(hq:∀k,na X q k=k)(h:aK P pl X (aN P pl q) nx0 H0 R):aK P pl X (.jump q) nx0 H0 R:=by
 obtain⟨v,H',nx',h1,hR,h2⟩:=h
 refine⟨v,H',nx',h1,hR,?_⟩
 show F P pl X q=_
 rw[oI,hq]
 exact h2
theorem Wq.call {g:FuncId}{args:List Value}{k p:Value->T OB->Nat->Q}(hg:Pure P pl X g args u)(h:Ag nx0 H0 nx H)(hk:∀H' nx',Ag nx0 H0 nx' H'->aK P pl X (k u H' nx') nx0 H0 R):
 aK P pl X (ah (.call g args false none H nx) k p) nx0 H0 R:=by
 obtain⟨H1,aC,h1,h2⟩:=hg H nx
 obtain⟨v,H2,nx2,h3,hR,h4⟩:=hk H1 aC (h.trans h1)
 refine⟨v,H2,nx2,h3,hR,?_⟩
 show aa (F P pl X (.call g args false none H nx)) (λr=>(match r.o with | .ret v=>k v r.H r.nx | .fR v=>p v r.H r.nx:Q).run (F P pl X)) none=_
 rw[h2]
 exact h4
theorem jm {e:TypeId}{l:List Value}{k:Value->T OB->Nat->Q}(hz:bS P e=some l):ak (aq P H nx e) k=k (jD nx) (Ev.set H (bits nx) (some (cS l e))) (nx+1):=by
 unfold aq
 rw[hz,aJ,eo]
 rfl
theorem Wq.var {e t:TypeId}{l:List Value}{s:Nat}{x:Value}{k:T OB->Nat->Q}(hz:bS P e=some l)(hs:bh P t=some s)(hl:l.length=s)(hx:x.cells.toList.length=s)(hone:x.cells.toList.all ax=true)
 (h:Ag nx0 H0 nx H) (hk:∀H' nx',Ag nx0 H0 nx' H'->aK P pl X (k H' nx') nx0 H0 R):aK P pl X (ak (aq P H nx e) λp H nx=>bC P H nx t (some p) x k) nx0 H0 R:=by
 rw[jm hz]
 have hg:(Ev.set H (bits nx) (some (cS l e))).get (bits nx)=some (cS l e):=by rw[get_at,if_pos rfl]
 have e1:bC P (Ev.set H (bits nx) (some (cS l e))) (nx+1) t (some (jD nx)) x k=k (Ev.set (Ev.set H (bits nx) (some (cS l e))) (bits nx) (some .dead)) (nx+1+1):=by
  show lB ((Ev.set H (bits nx) (some (cS l e))).get (bits nx)) (λn _ _=>aa (bh P t) (λs=>bif Nat.beq 0 0&&(Nat.beq n s&&(Nat.beq x.cells.toList.length s&&x.cells.toList.all ax))then
   da (bits nx) (Ev.set H (bits nx) (some (cS l e))) (some .dead) λH=>bF (Nat.succ (nx+1)) λn=>k H n else .bad) .bad)=_
  rw[hg]
  show aa (bh P t) (λs=>bif Nat.beq 0 0&&(Nat.beq l.length s&&(Nat.beq x.cells.toList.length s&&x.cells.toList.all ax))then
   da (bits nx) (Ev.set H (bits nx) (some (cS l e))) (some .dead) λH=>bF (Nat.succ (nx+1)) λn=>k H n else .bad) .bad=_
  rw[hs,aJ,hl,hx,hone,a_,ba]
  have e2:Nat.beq s s=true:=Nat.beq_refl s
  rw[e2]
  rfl
 rw[e1]
 exact hk _ _ ((((h.set h.1 _).succ).set h.1 _).succ)
theorem Wq.bF {k:Nat->Q}(hk:aK P pl X (k (nx+1)) nx0 H0 R):aK P pl X (Ev.bF (Nat.succ nx) k) nx0 H0 R:=by rw[ba];exact hk
@[simp] theorem LG (n:Nat):tM (n:Int)=true:=rfl
@[simp] theorem AK (k:IntKind) (n:Int):sb (some false) (some 1) (.int k n)=some (.int k n):=rfl
@[simp] theorem AL (s:ByteArray):sb (some false) (some 1) (.string s)=some (.string s):=rfl
@[simp] theorem xF (s:Bool):sb (some false) (some 1) (.bool s)=some (.bool s):=rfl
@[simp] theorem AM (s:Nat) (es:List Value):sb (some false) (some 1) (bc s es)=some (bc s es):=rfl
@[simp] theorem Fg (u:Value):sb (some false) (some 1) (aj u)=some (aj u):=rfl
@[simp] theorem xG:sb (some false) (some 1) (.pointer none)=some (.pointer none):=rfl
theorem dR {t:TypeId}{s:Nat}{es:List Value}{i:Nat}{u:Value}(hs:pY P t=some s)(hi:es[i]? = some u)(k:IntKind):au P t (some (bc s es)) (some (.int k (i:Int)))=some (aj u):=by
 show hZ (i:Int) (Ez P t (some (bc s es))) none=_
 rw[fm]
 show IE (pY P t) s es i=_
 unfold IE
 rw[hs,aJ,Nat.beq_refl,hi]
 rfl
theorem dM {t ty:TypeId}(s:Nat)(es:List Value)(h:eB P (some t)=true):aM P #[t] ty (some [bc s es])=some (.int .i64 (es.length:Int)):=by
 show(bif eB P (some t)then some (Value.int .i64 (.ofNat es.length))else none)=_
 rw[h];rfl
theorem cg {α β:Type}(s:Sem α)(f:α->Sem β):cf P (s >>= f)=(cf P s).bind λa=>cf P (f a):=by
 show cf P (s.bind f)=_
 induction s with
 | pure a=>rfl
 | program k ih=>exact ih P
 | mark m k ih=>exact ih
 | _=>rfl
theorem dx {t:TypeId}{d:TypeDesc}(hu:P.underlying t=some d):cf P (underlying t)=some d:=by
 unfold underlying
 simp only[cg,program,cf,Option.bind_some,hu]
 rfl
theorem bt {t ty:TypeId}(s:ByteArray)(hu:P.underlying t=some .string):aM P #[t] ty (some [.string s])=some (.int .i64 (s.size:Int)):=by
 show iZ P .len #[t] ty (some [.string s])=_
 show(bif true&&true then pW (cf P (builtin .len #[t] ty #[] ⟨[.string s]⟩))else none)=_
 have e:cf P (builtin .len #[t] ty #[] ⟨[.string s]⟩)=some (.value (.int .i64 (s.size:Int))):=by
  simp only[builtin,Builtin.len_]
  simp[cg,dx hu,goInt]
  rfl
 rw[e]
 show(pT (.int .i64 (s.size:Int)) λv=>bif flat v then some v else none)=_
 rw[jg];rfl
@[simp] theorem nZ (k:IntKind) (n:Int):ax (.int k n)=true:=rfl
@[simp] theorem ik (s:ByteArray):ax (.string s)=true:=rfl
@[simp] theorem mw (b:Bool):ax (.bool b)=true:=rfl
@[simp] theorem n_ (s:Nat) (es:List Value):ax (bc s es)=true:=rfl
@[simp] theorem qT (u:Value):ax (aj u)=true:=rfl
@[simp] theorem my:ax (.pointer none)=true:=rfl
theorem dy {w:Value}(h:flat w=true):fV P (pure w)=some w:=by
 show(pT w λv=>bif flat v then some v else none)=_
 rw[jg,h];rfl
theorem Fh (op:BinOp)(t:TypeId)(k:IntKind)(a b:Int):tO P op t (.int k a) (.int k b)=fV P (binOp op t (.int k a) (.int k b)):=by cases op<;>rfl
theorem gV {op:BinOp}{t:TypeId}{q:Bool}{a b:Value}(ha:flat a=true)(hb:flat b=true)(hq:p4 a=false)(hg:lA a=false):al P H op t q (some a) (some b)=tO P op t a b:=by
 have e:al P H op t q (some a) (some b)=jX P H op t q a b:=by cases a<;>first | rfl | cases hg
 rw[e]
 show(bif flat a&&flat b then(bif q || !(p4 a&&p4 b)then tO P op t a b else none)else pZ P H op t a b)=_
 rw[ha,hb,hq]
 cases q<;>rfl
theorem dt (op:BinOp)(t:TypeId)(q:Bool)(k:IntKind)(a b:Int):al P H op t q (some (.int k a)) (some (.int k b))=fV P (binOp op t (.int k a) (.int k b)):=by
 rw[gV rfl rfl rfl rfl,Fh]
@[simp] theorem tc (t:TypeId) (q:Bool) (k:IntKind) (a b:Int):al P H .add t q (some (.int k a)) (some (.int k b))=some (.int k (k.wrap (a+b))):=by
  rw[dt]
  have e:binOp .add t (.int k a) (.int k b)=pure (.int k (k.wrap (a+b))):=by simp[binOp,Op.intArith]
  rw[e];exact dy rfl
@[simp] theorem td (t:TypeId) (q:Bool) (k:IntKind) (a b:Int):al P H .sub t q (some (.int k a)) (some (.int k b))=some (.int k (k.wrap (a-b))):=by
  rw[dt]
  have e:binOp .sub t (.int k a) (.int k b)=pure (.int k (k.wrap (a-b))):=by simp[binOp,Op.intArith]
  rw[e];exact dy rfl
@[simp] theorem te (t:TypeId) (q:Bool) (k:IntKind) (a b:Int):al P H .mul t q (some (.int k a)) (some (.int k b))=some (.int k (k.wrap (a*b))):=by
  rw[dt]
  have e:binOp .mul t (.int k a) (.int k b)=pure (.int k (k.wrap (a*b))):=by simp[binOp,Op.intArith]
  rw[e];exact dy rfl
theorem iO (t:TypeId)(q:Bool)(k:IntKind)(a b:Int)(hb:b≠0):al P H .quo t q (some (.int k a)) (some (.int k b))=some (.int k (k.wrap (a.tdiv b))):=by
 rw[dt]
 have e:binOp .quo t (.int k a) (.int k b)=pure (.int k (k.wrap (a.tdiv b))):=by simp[binOp,Op.intDiv,hb]
 rw[e];exact dy rfl
theorem kM (t:TypeId)(q:Bool)(k:IntKind)(a b:Int)(hb:b≠0):al P H .rem t q (some (.int k a)) (some (.int k b))=some (.int k (a.tmod b)):=by
 rw[dt]
 have e:binOp .rem t (.int k a) (.int k b)=pure (.int k (a.tmod b)):=by simp[binOp,Op.intDiv,hb]
 rw[e];exact dy rfl
@[simp] theorem tg (t:TypeId) (q:Bool) (k:IntKind) (a b:Int):al P H .lss t q (some (.int k a)) (some (.int k b))=some (.bool (decide (a<b))):=by
  rw[dt]
  have e:binOp .lss t (.int k a) (.int k b)=pure (.bool (decide (a<b))):=by simp[binOp,Op.intCmp]
  rw[e];exact dy rfl
@[simp] theorem th (t:TypeId) (q:Bool) (k:IntKind) (a b:Int):al P H .leq t q (some (.int k a)) (some (.int k b))=some (.bool (decide (a<=b))):=by
  rw[dt]
  have e:binOp .leq t (.int k a) (.int k b)=pure (.bool (decide (a<=b))):=by simp[binOp,Op.intCmp]
  rw[e];exact dy rfl
@[simp] theorem ti (t:TypeId) (q:Bool) (k:IntKind) (a b:Int):al P H .gtr t q (some (.int k a)) (some (.int k b))=some (.bool (decide (b<a))):=by
  rw[dt]
  have e:binOp .gtr t (.int k a) (.int k b)=pure (.bool (decide (b<a))):=by simp[binOp,Op.intCmp]
  rw[e];exact dy rfl
@[simp] theorem tj (t:TypeId) (q:Bool) (k:IntKind) (a b:Int):al P H .geq t q (some (.int k a)) (some (.int k b))=some (.bool (decide (b<=a))):=by
  rw[dt]
  have e:binOp .geq t (.int k a) (.int k b)=pure (.bool (decide (b<=a))):=by simp[binOp,Op.intCmp]
  rw[e];exact dy rfl
@[simp] theorem tl (t:TypeId) (q:Bool) (k:IntKind) (a b:Int):al P H .eql t q (some (.int k a)) (some (.int k b))=some (.bool (decide (a=b))):=by
  rw[dt]
  have e:binOp .eql t (.int k a) (.int k b)=pure (.bool (decide (a=b))):=by simp[binOp,Op.intCmp];rfl
  rw[e];exact dy rfl
@[simp] theorem tn (t:TypeId) (q:Bool) (k:IntKind) (a b:Int):al P H .neq t q (some (.int k a)) (some (.int k b))=some (.bool (!decide (a=b))):=by
  rw[dt]
  have e:binOp .neq t (.int k a) (.int k b)=pure (.bool (!decide (a=b))):=by simp[binOp,Op.intCmp];rfl
  rw[e];exact dy rfl
theorem QU (a b:ByteArray):(a.toList == b.toList)=decide (a=b):=by
 rw[ByteArray.toList_eq,ByteArray.toList_eq]
 obtain⟨⟨x⟩⟩:=a
 obtain⟨⟨y⟩⟩:=b
 rw[Bool.eq_iff_iff]
 simp
theorem bn {t:TypeId}{z l:List Value}{vs:List (Nat×Value)}(hz:bS P t=some z)(hb:P.built t vs=some ⟨l⟩):aw P t (some vs)=some (.agg ⟨l⟩):=by
 show aa (bS P t) (λ_=>aa (P.built t vs) (λcs=>pT (.agg cs) some) none) none=_
 rw[hz,aJ,hb,aJ,jg]
@[simp] theorem qU (t:TypeId) (q:Bool) (a b:ByteArray):al P H .eql t q (some (.string a)) (some (.string b))=some (.bool (decide (a=b))):=by
  rw[gV rfl rfl rfl rfl]
  have e:tO P .eql t (.string a) (.string b)=fV P (binOp .eql t (.string a) (.string b)):=rfl
  rw[e,binOp_string_eql,QU];exact dy rfl
@[simp] theorem qV (t:TypeId) (q:Bool) (a b:ByteArray):al P H .neq t q (some (.string a)) (some (.string b))=some (.bool (!decide (a=b))):=by
  rw[gV rfl rfl rfl rfl]
  have e:tO P .neq t (.string a) (.string b)=fV P (binOp .neq t (.string a) (.string b)):=rfl
  rw[e,binOp_string_neq,QU];exact dy rfl
theorem zq (t:TypeId)(q:Bool)(a b:ByteArray)(h:a.size+b.size<=9223372036854775807):al P H .add t q (some (.string a)) (some (.string b))=some (.string (a++b)):=by
 rw[gV rfl rfl rfl rfl]
 have e:tO P .add t (.string a) (.string b)=fV P (binOp .add t (.string a) (.string b)):=rfl
 have e2:Op.stringOp .add a b=pure (.string (a++b)):=by
  simp only[Op.stringOp]
  rw[if_neg]
  have:IntKind.i64.max=9223372036854775807:=by decide
  rw[this]
  omega
 rw[e,binOp_string_add,e2];exact dy rfl
theorem Ea {op:BinOp}{t:TypeId}{q:Bool}{l m:List Value}{ks:List Nat}(hk:p6 P t=some ks):al P H op t q (some (.agg ⟨l⟩)) (some (.agg ⟨m⟩))=aa (lh ks l m) (Qy op) none:=by
 show Aq (p6 P t) op l m _=_
 rw[hk]
 rfl
@[simp] theorem uk (b:Bool):eO P .not (some (.bool b))=some (.bool (!b)):=by cases b<;>rfl
@[simp] theorem qW {β:Type} (b:Bool) (k:Bool->β) (bad:β):aB (.bool b) k bad=k b:=rfl
theorem ct {n:Int}(h: -9223372036854775808<=n/\n<9223372036854775808):IntKind.i64.wrap n=n:=by
 unfold IntKind.wrap
 have:IntKind.i64.bits=64:=rfl
 have:IntKind.i64.signed=true:=rfl
 simp only[*,Bool.true_and]
 split
 . rename_i h'
   simp only[decide_eq_true_eq]at h'
   omega
 . rename_i h'
   simp only[decide_eq_true_eq]at h'
   omega
theorem Wq.bK {b:Bool}{x y:Q}(h:b=true->aK P pl X x nx0 H0 R)(h':b=false->aK P pl X y nx0 H0 R):aK P pl X (Ev.bK b x y) nx0 H0 R:=by
 cases b
 . exact h' rfl
 . exact h rfl
theorem Wq.ite {p:Prop}[Decidable p]{x y:Q}(h:p->aK P pl X x nx0 H0 R)(h':¬p->aK P pl X y nx0 H0 R):aK P pl X (Ev.bK (decide p) x y) nx0 H0 R:=
 Wq.bK (λq=>h (of_decide_eq_true q)) (λq=>h' (of_decide_eq_false q))
theorem Wq.fq {k:Nat->Q}(h:Ag nx0 H0 nx H)(hk:Ag nx0 H0 (nx+1) H->aK P pl X (k (nx+1)) nx0 H0 R):aK P pl X (Ev.bF (Nat.succ nx) k) nx0 H0 R:=Wq.bF (hk h.succ)
theorem Wq.up {σ:Type}(n:Nat)(q:Nat->σ->T OB->Nat->Q)(r:Nat->σ->Value)(hend:∀s H1 aC,Ag nx0 H0 aC H1->Wq P pl X (q n s H1 aC) nx0 H0 (r n s))
 (hstep:∀i s H1 aC,i<n->(∀s H2 nx2,Ag nx0 H0 nx2 H2->Wq P pl X (q (i+1) s H2 nx2) nx0 H0 (r (i+1) s))->Ag nx0 H0 aC H1->Wq P pl X (q i s H1 aC) nx0 H0 (r i s)):
 ∀(i:Nat) (s:σ) (H1:T OB) (aC:Nat),i<=n->Ag nx0 H0 aC H1->Wq P pl X (q i s H1 aC) nx0 H0 (r i s):=by
 have h:∀(d i:Nat),n-i=d->i<=n->∀(s:σ) (H1:T OB) (aC:Nat),Ag nx0 H0 aC H1->Wq P pl X (q i s H1 aC) nx0 H0 (r i s):=by
  intro d
  induction d with
  | zero=>intro i hd hi s H1 aC hA;obtain rfl:i=n:=by omega
          exact hend s H1 aC hA
  | succ d ih=>intro i hd hi s H1 aC hA;exact hstep i s H1 aC (by omega) (λs H2 nx2 h=>ih (i+1) (by omega) (by omega) s H2 nx2 h) hA
 exact λi s H1 aC hi hA=>h (n-i) i rfl hi s H1 aC hA
def cG (H:T OB)(b:Nat)(l:List Value)(e:TypeId):Prop:=∃tr,H.get (bits b)=some (.cells l.length tr e)/\∀i,i<l.length->tr.get (bits i)=l[i]?
theorem cG.new (l:List Value)(e:TypeId):cG (Ev.set H (bits nx) (some (cS l e))) nx l e:=⟨_,by rw[get_at,if_pos rfl];rfl,λi hi=>sW l i hi⟩
theorem cG.other {b:Nat}{l:List Value}{e:TypeId}(h:cG H b l e){c:Nat}(hc:b≠c)(x:Option OB):cG (Ev.set H (bits c) x) b l e:=by
 obtain⟨tr,h1,h2⟩:=h
 exact⟨tr,by rw[get_at,if_neg hc];exact h1,h2⟩
theorem cG.ag {b:Nat}{l:List Value}{e:TypeId}(h:cG H b l e)(hA:Ag nx H aC H1)(hb:b<nx):cG H1 b l e:=by
 obtain⟨tr,h1,h2⟩:=h
 exact⟨tr,(show hp H1 b=_ from(hA.2 b hb).trans h1),h2⟩
def il (l u:List Value)(off:Nat):List Value:=l.take off++u++l.drop (off+u.length)
theorem iz {tr:T Value}{l:List Value}(h:∀i,i<l.length->tr.get (bits i)=l[i]?):∀(n off:Nat),off+n<=l.length->oE tr n off=some ((l.drop off).take n)
 | 0,off,_=>by rw[wY];simp
 | n+1,off,hn=>by
   have hlt:off<l.length:=by omega
   rw[wZ,h off hlt,List.getElem?_eq_getElem hlt,iz h n (off+1) (by omega),List.drop_eq_getElem_cons hlt,List.take_succ_cons]
theorem bV {b off s:Nat}{l:List Value}{e t:TypeId}(h:cG H b l e)(ha:dh P t=some true)(hs:bh P t=some s)(hn:off+s<=l.length):
 ae P H t (some (.pointer (some ⟨b,off,none⟩)))=some (.agg ⟨(l.drop off).take s⟩):=by
 obtain⟨tr,h1,h2⟩:=h
 show jC P H t b off=_
 unfold jC
 rw[h1]
 show jV P l.length tr t off=_
 unfold jV
 rw[ha,aJ]
 show pV P l.length tr t off=_
 unfold pV
 rw[hs,aJ,iz h2 s off hn,Nat.ble_eq_true_of_le hn]
 rfl
theorem av {b off:Nat}{l:List Value}{e t:TypeId}{u:Value}(h:cG H b l e)(ha:dh P t=some false)(hu:l[off]? = some u):ae P H t (some (.pointer (some ⟨b,off,none⟩)))=some u:=by
 obtain⟨tr,h1,h2⟩:=h
 have hlt:=(List.getElem?_eq_some_iff.1 hu).1
 show jC P H t b off=_
 unfold jC
 rw[h1]
 show jV P l.length tr t off=_
 unfold jV
 rw[ha,aJ]
 show pU l.length tr off=_
 unfold pU
 have e1:Nat.blt off l.length=true:=Nat.ble_eq_true_of_le hlt
 rw[e1,h2 off hlt,hu]
 rfl
theorem Wq.alloc {e:TypeId}{l:List Value}{k:Value->T OB->Nat->Q}(hz:bS P e=some l)(h:Ag nx0 H0 nx H)
 (hk:∀H',cG H' nx l e->(∀b l e,b<nx->cG H b l e->cG H' b l e)->Ag nx0 H0 (nx+1) H'->aK P pl X (k (.pointer (some ⟨nx,0,none⟩)) H' (nx+1)) nx0 H0 R):aK P pl X (ak (aq P H nx e) k) nx0 H0 R:=by
 rw[jm hz]
 exact hk _ (cG.new l e) (λb l e hb h=>h.other (by omega) _) (h.succ.set h.1 _)
theorem Wq.box {e:TypeId}{u:Value}{k:Value->T OB->Nat->Q}(h:Ag nx0 H0 nx H)
 (hk:∀H',cG H' nx u.cells.toList e->(∀b l e,b<nx->cG H b l e->cG H' b l e)->Ag nx0 H0 (nx+1) H'->aK P pl X (k (.pointer (some ⟨nx,0,none⟩)) H' (nx+1)) nx0 H0 R):aK P pl X (ak (jE H nx e (some u)) k) nx0 H0 R:=by
 have e1:ak (jE H nx e (some u)) k=k (jD nx) (Ev.set H (bits nx) (some (cS u.cells.toList e))) (nx+1):=by
  show ak (wO H nx e u.cells.toList λH n=> .val (jD nx) H n) k=_
  rw[eo];rfl
 rw[e1]
 exact hk _ (cG.new _ e) (λb l e hb h=>h.other (by omega) _) (h.succ.set h.1 _)
theorem Eb {l u:List Value}{off i:Nat}(hn:off+u.length<=l.length):(il l u off)[i]? = if off<=i/\i<off+u.length then u[i-off]? else l[i]? := by
 unfold il
 have h1:(l.take off).length=off:=by simp;omega
 by_cases h:i<off
 . rw[if_neg (by omega),List.append_assoc,List.getElem?_append_left (by omega),List.getElem?_take,if_pos h]
 . by_cases h2:i<off+u.length
   . rw[if_pos (by omega),List.append_assoc,List.getElem?_append_right (by omega),List.getElem?_append_left (by omega),h1]
   . rw[if_neg (by omega),List.getElem?_append_right (by simp;omega),List.getElem?_drop]
     congr 1
     simp
     omega
theorem mz {l u:List Value}{off:Nat}(hn:off+u.length<=l.length):(il l u off).length=l.length:=by
 unfold il;simp;omega
theorem Wq.store {b off s:Nat}{l:List Value}{e t:TypeId}{u:Value}{k:Value->T OB->Nat->Q}(hb:cG H b l e)(hs:bh P t=some s)(hn:off+s<=l.length)(hl:u.cells.toList.length=s)(hone:u.cells.toList.all ax=true)
 (h:Ag nx0 H0 nx H) (hbn:nx0<=b) (hk:∀H',cG H' b (il l u.cells.toList off) e->(∀c l e,c≠b->cG H c l e->cG H' c l e)->Ag nx0 H0 nx H'->aK P pl X (k undef H' nx) nx0 H0 R):
 aK P pl X (ak (ai P H nx t (some (.pointer (some ⟨b,off,none⟩))) (some u)) k) nx0 H0 R:=by
 obtain⟨tr,h1,h2⟩:=hb
 have e1:ai P H nx t (some (.pointer (some ⟨b,off,none⟩))) (some u)= .val undef (Ev.set H (bits b) (some (.cells l.length (ej u.cells.toList off tr) e))) nx:=by
  show dJ (H.get (bits b)) (λn tr e=>aa (bh P t) (λs=>bif Nat.beq u.cells.toList.length s&&Nat.ble (off+s) n&&u.cells.toList.all ax then
   eA u.cells.toList off tr λtr=>da (bits b) H (some (.cells n tr e)) λH=>eC.val undef H nx else .bad) .bad) .bad=_
  rw[h1]
  show aa (bh P t) (λs=>bif Nat.beq u.cells.toList.length s&&Nat.ble (off+s) l.length&&u.cells.toList.all ax then
   eA u.cells.toList off tr λtr=>da (bits b) H (some (.cells l.length tr e)) λH=>eC.val undef H nx else .bad) .bad=_
  rw[hs,aJ,hl,Nat.beq_refl,Nat.ble_eq_true_of_le hn,hone,cW,a_]
  rfl
 rw[e1]
 have hn':off+u.cells.toList.length<=l.length:=by rw[hl];exact hn
 refine hk _ ⟨ej u.cells.toList off tr,?_,λi hi=> ?_⟩ (λc l e hc h=>h.other hc _) (h.set hbn _)
 . rw[get_at,if_pos rfl,mz hn']
 . rw[mz hn']at hi
   rw[dr,Eb hn']
   split
   . rfl
   . exact h2 i hi
end
end
end Go.Ev
namespace Go.Proofs.YthjhonhhbddhkaaGreatDoor
open Go.Ev Go.RowKit
noncomputable section
set_option maxRecDepth 100000
set_option linter.unusedVariables false
set_option linter.unusedSimpArgs false
set_option maxHeartbeats 8000000
noncomputable abbrev P:Program:=Tryz.prog
def pl:jf:=⟨[(157,[0]),(116,[0]),(142,[0]),(138,[0]),(82,[0]),(173,[0]),(79,[0]),(61,[1000]),(107,[1000]),(108,[1000]),(151,[1000]),(178,[1000]),(188,[1000]),(177,[1000]),(147,[1000]),(175,[1000]),(104,[1000]),(149,[1000]),(148,[1000]),(105,[1000]),(60,[1000]),(103,[1000]),(35,[1000]),(121,[1000]),(67,[1000]),(38,[1000]),(16,[1000]),(39,[1000]),(69,[1000]),(70,[1000]),(124,[1000]),(161,[1000]),(182,[1000]),(191,[1000]),(193,[1000]),(194,[1000]),(195,[1000]),(196,[1000]),(199,[1000]),(198,[1000]),(160,[1000]),(120,[1000]),(158,[1000]),(181,[1000]),(66,[1000]),(122,[1000]),(65,[1000]),(125,[1000])],[(76,[1]),(14,[0,1]),(29,[0]),(25,[0]),(30,[0]),(31,[0]),(115,[0]),(83,[0]),(43,[0]),(15,[0])],[(15,[6]),(16,[10]),(25,[2,3]),(27,[5]),(29,[2,3]),(30,[2,3]),(31,[2,3]),(33,[1]),(34,[4]),(36,[1,3]),(38,[4,5]),(39,[3,4,5,6,7,8]),(41,[7]),(42,[6]),(43,[6]),(44,[1,5]),(45,[1,5]),(49,[1]),(50,[1,5,7,9,11,13]),(61,[3,4,5,6]),(64,[1]),(65,[4]),(66,[4]),(67,[4,5,7]),(69,[5,6]),(70,[4]),(71,[5]),(72,[2]),(73,[2]),(74,[2]),(75,[3,5,7]),(80,[1]),(81,[1]),(84,[1]),(86,[1]),(87,[1]),(90,[1]),(93,[1]),(94,[1]),(95,[1]),(96,[1,5]),(97,[1,5,7]),(98,[1,5]),(103,[4]),(105,[4]),(109,[5]),(119,[5]),(120,[3,4]),(121,[3,5,6]),(122,[4]),(124,[4]),(125,[4,5]),(126,[2]),(128,[6]),(131,[3,5]),(132,[3]),(133,[3]),(134,[3,7]),(135,[3,5]),(137,[1]),(140,[1]),(141,[1]),(143,[1]),(146,[5]),(148,[4]),(152,[3]),(158,[3,5]),(160,[3,6]),(161,[3,4]),(162,[5]),(163,[3,5]),(164,[8]),(165,[7]),(166,[3,5,6]),(168,[3]),(170,[3]),(171,[3,5,7]),(172,[1]),(175,[4]),(177,[3]),(178,[3,6]),(181,[5]),(182,[5]),(183,[1]),(185,[3]),(187,[4]),(188,[4]),(191,[3,4]),(193,[5]),(194,[5]),(195,[4,6]),(196,[3]),(198,[4]),(199,[4,8])],[((4,9),[0,3,4]),((35,7),[0,3]),((35,14),[0,3,4]),((23,9),[0,3,4]),((27,9),[3,6,7,8]),((21,7),[0,3]),((20,13),[0,4,5]),((20,20),[0,4,5]),((17,11),[0,1,2,7]),((17,22),[0,1,2,7,8,9]),((14,11),[0,1,5]),((14,18),[0,1,5,6,7,75]),((14,23),[0,1,5,6,7,8]),((14,30),[0,1,5,6,7,8,113]),((16,7),[0,5]),((16,19),[6,7]),((16,28),[6,7,8]),((34,12),[0,1,2,4]),((15,7),[0,2,3,4,8,9,10]),((49,12),[1,3,4]),((49,58),[3]),((49,27),[1,3,5]),((49,44),[3,4,75]),((49,35),[1,3,5,6]),((49,47),[3,4,7]),((49,53),[3,4,7,8]),((50,70),[3]),((50,17),[3,28,29,30]),((50,39),[3,56,57,58]),((50,59),[3,79,80,81]),((50,25),[3,28,29,30,40,41,42]),((50,45),[3,56,57,58,63,64,65]),((45,29),[1,3,4]),((45,47),[1,3,6]),((45,72),[]),((45,36),[1,3,4,89]),((45,57),[1,3,7]),((42,9),[4,9,10,11]),((41,9),[0,1,5,6]),((41,21),[0,1,5,6,7,8]),((41,29),[0,1,5,6,7,8,9]),((41,37),[0,1,5,6,7,10]),((41,47),[0,1,5,6,7,11]),((44,17),[1,3,4]),((44,45),[1,9,10]),((44,66),[1]),((44,29),[1,3,4,5,6,7,8]),((44,60),[1,9,11]),((43,9),[4,7,8,9]),((43,34),[4,7,8,9]),((43,22),[4,6,7,8,9]),((32,11),[0,1,5]),((31,6),[2,3,29]),((31,11),[2,3,5]),((31,21),[2,3,6]),((25,6),[2,3,49]),((25,11),[2,3,5]),((40,10),[5]),((36,10),[1,28]),((33,26),[1,66]),((33,46),[1,90]),((33,31),[1,3]),((33,48),[1,110]),((33,36),[1,3,86]),((33,53),[1,4]),((108,11),[0,1,4,5]),((108,14),[0,1,4,5,6,26]),((107,5),[0,3,4]),((105,17),[0,2,5]),((105,22),[2]),((104,10),[2,3]),((103,24),[0,2,3]),((103,19),[0,2,3]),((103,31),[0,2,3]),((95,9),[1,3,4]),((94,9),[1,3,4]),((94,17),[1,3,5]),((93,9),[1,3,4]),((98,9),[3,7,8,9]),((97,9),[1,3,12,13,14]),((97,19),[3,24,25,26]),((96,9),[3,7,8,9]),((89,7),[0,3]),((87,7),[1,3]),((87,16),[1,36]),((87,62),[1,4,41,91]),((87,81),[1,4,5]),((87,86),[1,4,5,152]),((86,6),[1,16]),((75,24),[0,3]),((75,27),[0,48,49,50]),((75,39),[0,5,48,49,50,76,77,78]),((74,9),[1,2,5,6]),((73,9),[1,2,5,6]),((73,17),[1,2,5,7]),((72,9),[1,2,5,6]),((83,9),[0,1,5,6]),((83,16),[0,1,5,6]),((82,9),[0,3,4]),((81,67),[1,3,4,5]),((81,78),[1]),((80,40),[1]),((79,9),[0,3,4]),((79,18),[0,3,4,5,20]),((79,30),[0,3,4,5,43]),((78,10),[0,3]),((78,15),[0,3,4,5]),((78,28),[4,5]),((53,11),[0,1,5]),((53,16),[0,1,5,54]),((70,7),[0,2,3]),((69,5),[0,3,4]),((67,19),[0,2,6]),((67,26),[2]),((66,12),[2,3]),((65,20),[0,2,3]),((65,15),[0,2,3]),((65,25),[0,2,3]),((58,6),[0,3]),((54,7),[1,7,8,9]),((153,7),[1,7,8,9]),((152,8),[3,13]),((151,8),[0,2,3,13]),((151,15),[0,2,4]),((148,20),[0,2,3]),((149,7),[0,2,3]),((147,11),[0,2,3]),((147,14),[0,2,3]),((146,10),[0,4,5]),((143,7),[1,3]),((115,7),[0,1,5]),((141,42),[2,3]),((141,20),[1,2,3,10,17]),((141,28),[1,2,3,10,25]),((141,36),[1,2,3,10,31]),((133,6),[0,3,12]),((135,11),[0,18,19,20]),((134,10),[0,3]),((134,13),[0,3,21,22,23]),((134,20),[0,3,5,21,22,23]),((134,28),[0,3]),((134,35),[0,59,60,61]),((131,36),[0,3,7,51]),((131,40),[0,3]),((131,83),[0,163,164,165]),((130,14),[0]),((130,20),[0,3]),((130,26),[0,3]),((130,38),[0,3]),((130,44),[0,3]),((130,28),[0,3,72]),((128,8),[3,4,5,6,72]),((126,9),[1,2,5,6]),((137,6),[1,11]),((139,9),[0,1,5,6]),((118,9),[0,3,4]),((118,18),[0,3,4,5,20]),((118,30),[0,3,4,5,43]),((138,9),[0,3,4]),((124,7),[0,2,3]),((121,10),[0,2,3,4,19]),((122,7),[0,2,3]),((119,8),[0,5,17]),((114,6),[0,17]),((114,11),[0,3]),((114,16),[0,3,34]),((113,10),[20]),((112,6),[0,17]),((112,11),[0,3]),((111,6),[0,15]),((111,13),[0,4,5]),((110,9),[0,4,5]),((110,14),[0,4,5,27]),((117,9),[0,3,4]),((117,16),[0,3,4,5]),((179,14),[0,6]),((178,47),[0,2,4,73,74]),((178,55),[0,2,4,6,7]),((178,60),[0,2,4,73,74]),((177,53),[0,2,4]),((177,56),[0,2,4]),((176,14),[0,6]),((175,44),[0,2,3]),((175,29),[0,2,3,7]),((175,47),[0,2,3,10,11]),((175,40),[0,2,3,7,8]),((171,18),[0,3,9,26]),((171,20),[0,3]),((171,40),[0,3]),((171,23),[0,3,52,53,54]),((171,43),[0,3,85,86,87]),((171,30),[0,3,5,52,53,54]),((171,50),[0,3,7,85,86,87]),((171,58),[0,3]),((165,5),[0,2,8,9,10]),((165,12),[0,2,7,8,9,10]),((170,46),[0,3,77]),((170,56),[0,3]),((169,6),[0,2,10]),((167,7),[0,5,6]),((166,13),[0,3,19,20,21]),((166,18),[0,3,5,19,20,21]),((166,38),[0]),((162,5),[0,6,7,8]),((162,12),[0,5,6,7,8]),((163,6),[0,3]),((163,10),[0,3]),((163,23),[0,92,93,94]),((173,9),[0,3,4]),((173,16),[0,3,4,5,39]),((172,20),[1,5]),((160,8),[0,2,3,33]),((160,42),[0,2,83]),((160,51),[0,2,5]),((160,56),[0,2,5]),((158,13),[0,2,4]),((155,6),[0,20]),((155,36),[0,58]),((188,7),[0,2,3]),((188,14),[0,2,3,4]),((188,25),[0,2,3,6]),((188,28),[0,2,3,6]),((187,8),[0,4,13]),((185,6),[0,3,17]),((184,4),[0,1,2]),((184,7),[0,1,2,6]),((184,14),[0,1,2,6]),((183,20),[5]),((182,7),[0,2,3]),((181,36),[0,2,3]),((181,17),[0,2,3,4]),((181,37),[0,2,3]),((192,7),[0,1,5]),((193,7),[0,2,3]),((194,7),[0,2,3]),((195,17),[0,2,5]),((196,8),[0,2,3,32]),((196,34),[0,2,73]),((196,44),[0,2,4]),((199,10),[0,2,6,7]),((199,11),[0,2,6,7]),((198,7),[0,2,3]),((198,14),[0,2,3,4]),((198,24),[0,2,3,6])],true⟩
end
end Go.Proofs.YthjhonhhbddhkaaGreatDoor
namespace Go.Ev
noncomputable section
set_option maxRecDepth 100000
set_option linter.unusedVariables false
set_option linter.unusedSimpArgs false
section
variable {P:Program}{pl:jf}{X:Ext}{H H0 H1:T OB}{nx nx0 aC:Nat}{v u:Value}{R:Go.Ev.Out->T OB->Nat->Prop}
theorem Wq.new {e:TypeId}{l:List Value}{q:T OB->Nat->Q}(h:Ag nx0 H0 nx H)(hk:∀H',cG H' nx l e->(∀b l e,b<nx->cG H b l e->cG H' b l e)->Ag nx0 H0 (nx+1) H'->aK P pl X (q H' (nx+1)) nx0 H0 R):
 aK P pl X (q (Ev.set H (bits nx) (some (cS l e))) (nx+1)) nx0 H0 R:=hk _ (cG.new l e) (λb l e hb h=>h.other (by omega) _) (h.succ.set h.1 _)
theorem Wq.row {t e:TypeId}{s n:Nat}{vs:List (Nat×Value)}{z l:List Value}{k:Value->T OB->Nat->Q}(hu:P.underlying t=some (.slice e))(hs:bh P e=some s)(hz:bS P e=some z)
 (hg:(Nat.ble (n*s) 16777216&&Nat.blt 0 (n*s)&&Nat.blt 0 z.length)=true) (hf:Instr.fill (λi=>some (i*s,s)) (bA z (n*s)) vs=some ⟨l⟩) (h:Ag nx0 H0 nx H)
 (hk:∀H',cG H' nx l e->(∀b l e,b<nx->cG H b l e->cG H' b l e)->Ag nx0 H0 (nx+1) H'->aK P pl X (k (.slice (some ⟨nx,0,none⟩) n n) H' (nx+1)) nx0 H0 R):
 aK P pl X (ak (ao P H nx t n (some vs)) k) nx0 H0 R:=by
 have e1:ak (ao P H nx t n (some vs)) k=k (.slice (some ⟨nx,0,none⟩) n n) (Ev.set H (bits nx) (some (cS l e))) (nx+1):=by
  unfold ao du
  rw[aJ,hu]
  simp only[hs,aJ,hz,hg,cond_true,hf]
  rw[eo,ba]
  rfl
 rw[e1]
 exact Wq.new h hk
theorem Fi {b s n c:Nat}{l:List Value}{e:TypeId}(h:cG H b l e)(hn:l.length=n*s):oG H s (.slice (some ⟨b,0,none⟩) n c)=some (n,l):=by
 obtain⟨tr,h1,h2⟩:=h
 show aa (cellsOf H s (some ⟨b,0,none⟩) n) (λl=>some (n,l)) none=_
 unfold cellsOf
 simp only
 rw[h1]
 show aa (bif Nat.ble (0+n*s) l.length then oE tr (n*s) 0 else none) (λl=>some (n,l)) none=_
 rw[Nat.zero_add,hn,Nat.ble_eq_true_of_le (Nat.le_refl _),cond_true,<- hn,iz h2 _ _ (by omega)]
 simp
theorem Fj (s:Nat)(es:List Value):oG H s (bc s es)=some (es.length,es.flatMap λu=>u.cells.toList):=by
 show(bif Nat.beq s s then some (es.length,es.flatMap λu=>u.cells.toList)else none)=_
 rw[Nat.beq_refl];rfl
def isStr (v:Value):Bool:=match v with
 | .string _=>true
 | _=>false
theorem kN {t:TypeId}{x:Value}{base:Option Addr}{sl sc:Nat}(hx:isStr x=false):a9 P H nx [t,t] (some [.slice base sl sc,x])=du P t (λe s=>aa (oG H s x) (λp=>bif bL P e s (sl+p.1)then sj P H nx e s base sl sc p.1 p.2 else .bad) .bad) .bad:=by
 have e1:a9 P H nx [t,t] (some [.slice base sl sc,x])=l4 P H nx [t,t] (some [.slice base sl sc,x]):=by cases x<;>first | rfl | cases hx
 rw[e1]
 show(bif !Nat.beq t t then eC.bad else _)=_
 rw[Nat.beq_refl];rfl
theorem Wq.Nr {t e:TypeId}{s m:Nat}{x:Value}{xs:List Value}{k:Value->T OB->Nat->Q}(hu:P.underlying t=some (.slice e))(hs:bh P e=some s)(hx:isStr x=false)(hxs:oG H s x=some (m,xs))(hsm:bL P e s m=true)(h:Ag nx0 H0 nx H)
 (h0:m=0->aK P pl X (k (.slice none 0 0) H nx) nx0 H0 R)
 (hk:∀H',0<m->cG H' nx xs e->(∀b l e,b<nx->cG H b l e->cG H' b l e)->Ag nx0 H0 (nx+1) H'->aK P pl X (k (.slice (some ⟨nx,0,none⟩) m eN) H' (nx+1)) nx0 H0 R):
 aK P pl X (ak (a9 P H nx [t,t] (some [.slice none 0 0,x])) k) nx0 H0 R:=by
 rw[kN hx]
 unfold du
 rw[hu]
 simp only[hs,aJ,hxs,Nat.zero_add,hsm,cond_true]
 show aK P pl X (ak (bif Nat.beq 0 0&&Nat.beq 0 0 then(bif Nat.beq m 0 then .val (.slice none 0 0) H nx else h_ H nx e m xs)else .bad) k) nx0 H0 R
 cases m with
 | zero=>exact h0 rfl
 | succ m=>
   show aK P pl X (ak (h_ H nx e (m+1) xs) k) nx0 H0 R
   rw[ig]
   exact Wq.new (q:=λH n=>k (.slice (some ⟨nx,0,none⟩) (m+1) eN) H n) h λH' a b c=>hk H' (Nat.succ_pos _) a b c
theorem Wq.app {t e e':TypeId}{b s n m:Nat}{x:Value}{l xs:List Value}{k:Value->T OB->Nat->Q}(hu:P.underlying t=some (.slice e))(hs:bh P e=some s)(hb:cG H b l e')(hs':bh P e'=some s)(hl:l.length=n*s)(hx:isStr x=false)(hxs:oG H s x=some (m,xs))
 (hone:xs.all ax=true) (hsm:bL P e s (n+m)=true) (h:Ag nx0 H0 nx H) (hbn:nx0<=b) (hbx:b<nx)
 (hk:∀H',cG H' nx (l++xs) e->(∀c l e,c≠b->c<nx->cG H c l e->cG H' c l e)->Ag nx0 H0 (nx+1) H'->aK P pl X (k (.slice (some ⟨nx,0,none⟩) (n+m) eN) H' (nx+1)) nx0 H0 R):
 aK P pl X (ak (a9 P H nx [t,t] (some [.slice (some ⟨b,0,none⟩) n eN,x])) k) nx0 H0 R:=by
 rw[kN hx]
 unfold du
 rw[hu]
 simp only[hs,aJ,hxs,hsm,cond_true]
 obtain⟨tr,h1,h2⟩:=hb
 have e1:sj P H nx e s (some ⟨b,0,none⟩) n eN m xs=h_ (Ev.set H (bits b) (some .dead)) nx e (n+m) (l++xs):=by
  show wQ P H nx e s b 0 n eN m xs=_
  unfold wQ
  rw[h1]
  have eu:Nat.beq eN eN=true:=Nat.beq_refl _
  simp only[dJ,eu,cond_true]
  unfold Qo sh
  rw[h1]
  show(bif Nat.beq 0 0&&Nat.ble (n*s) l.length&&aa (bh P e') (λz=>Nat.beq z s) false&&xs.all ax then _ else _)=_
  rw[hs',aJ,Nat.beq_refl,hl,Nat.ble_eq_true_of_le (Nat.le_refl _),hone]
  have:oE tr (n*s) 0=some l:=by rw[<- hl,iz h2 _ _ (by omega)];simp
  rw[this,Nat.beq_refl]
  show da (bits b) H (some .dead) (λH=>h_ H nx e (n+m) (l++xs))=_
  rw[a_]
 rw[e1,ig]
 exact Wq.new (q:=λH n'=>k (.slice (some ⟨nx,0,none⟩) (n+m) eN) H n') (h.set hbn _) λH' ha hb hc=>hk H' ha (λc l e hcb hcn hi=>hb c l e hcn (hi.other hcb _)) hc
theorem im:∀(l:List Value),chunk false 1 l.length l=some l
 | []=>rfl
 | v::l=>by
   show(bif Nat.ble 1 (l.length+1)then aa (chunk false 1 l.length l) (λr=>bK false _ (aa (some v) (λv=>some (v::r)) none)) none else none)=_
   rw[Nat.ble_eq_true_of_le (by omega),im l];rfl
theorem qX (s:Nat):∀(es:List (List Value)),(∀x,x∈es->x.length=s)->chunk true s es.length es.flatten=some (es.map λx=> .agg ⟨x⟩)
 | [],_=>rfl
 | x::es,h=>by
   have hx:=h x List.mem_cons_self
   show(bif Nat.ble s (x++es.flatten).length then aa (chunk true s es.length ((x++es.flatten).drop s)) (λr=>some (.agg ⟨(x++es.flatten).take s⟩::r)) none else none)=_
   rw[Nat.ble_eq_true_of_le (by simp;omega),<- hx,List.drop_left,List.take_left,hx,qX s es λy hy=>h y (List.mem_cons_of_mem _ hy)]
   rfl
theorem Wq.QV {t e e':TypeId}{b s n c:Nat}{a:Bool}{l es:List Value}{k:Value->T OB->Nat->Q}(hu:P.underlying t=some (.slice e))(hs:bh P e=some s)(ha:dh P e=some a)(hpos:(Nat.blt 0 s&&(a||Nat.beq s 1))=true)(hb:cG H b l e')(hl:l.length=n*s)
 (hc:(Nat.beq c eN||Nat.ble n c)=true) (hch:chunk a s n l=some es) (hone:(es.all λx=>Ev.bK a true (ax x))=true) (h:Ag nx0 H0 nx H) (hbn:nx0<=b)
 (hk:∀H',(∀c l e,c≠b->cG H c l e->cG H' c l e)->Ag nx0 H0 (nx+1) H'->aK P pl X (k (bc s es) H' (nx+1)) nx0 H0 R):
 aK P pl X (dK P t (.slice (some ⟨b,0,none⟩) n c) H nx k) nx0 H0 R:=by
 obtain⟨tr,h1,h2⟩:=hb
 have e2:DO P H e b 0 n=some (bc s es):=by
  unfold DO
  rw[h1]
  show aa (bh P e) (λs=>aa (dh P e) (λa=>bif Nat.ble (0+n*s) l.length&&Nat.blt 0 s&&(a||Nat.beq s 1)then _ else none) none) none=_
  rw[hs,aJ,ha,aJ,Nat.zero_add,hl,Nat.ble_eq_true_of_le (Nat.le_refl _),Bool.true_and,hpos,cond_true]
  have:oE tr (n*s) 0=some l:=by rw[<- hl,iz h2 _ _ (by omega)];simp
  rw[this,aJ,hch,aJ,hone]
  rfl
 have e1:dK P t (.slice (some ⟨b,0,none⟩) n c) H nx k=k (bc s es) (Ev.set H (bits b) (some (S9 (H.get (bits b))))) (nx+1):=by
  unfold dK
  rw[hu]
  simp only
  unfold eH
  rw[hu]
  simp only
  rw[hc,cond_true,e2,aJ,a_,ba]
 rw[e1]
 exact hk _ (λc l e hc hi=>hi.other hc _) ((h.set hbn _).succ)
theorem Fk {s:TypeId}{f d b o:Nat}(h:jW P s f=some d):ab P s (some (.pointer (some ⟨b,o,none⟩))) f=some (.pointer (some ⟨b,o+d,none⟩)):=by
 show S6 (jW P s f) (i_ P s f) (.pointer (some ⟨b,o,none⟩))=_
 rw[h]
 show bF (Nat.add o d) (λo=>some (Value.pointer (some ⟨b,o,none⟩)))=_
 rw[ba];rfl
theorem gW {t:TypeId}{s b off len c i:Nat}(hs:pY P t=some s)(hi:i<len)(k:IntKind):au P t (some (.slice (some ⟨b,off,none⟩) len c)) (some (.int k (i:Int)))=some (.pointer (some ⟨b,off+i*s,none⟩)):=by
 show hZ (i:Int) (Ez P t (some (.slice (some ⟨b,off,none⟩) len c))) none=_
 rw[fm]
 show aa (pY P t) (λs=>bif Nat.blt i len then bF (Nat.add off (Nat.mul i s)) (λo=>some (Value.pointer (some ⟨b,o,none⟩)))else none) none=_
 rw[hs,aJ,show Nat.blt i len=true from Nat.ble_eq_true_of_le hi,cond_true,ba]
 rfl
theorem dN {t ty:TypeId}{a:Addr}{n c:Nat}(h:eB P (some t)=true):aM P #[t] ty (some [.slice (some a) n c])=some (.int .i64 (n:Int)):=by
 show(bif eB P (some t)then some (Value.int .i64 (.ofNat n))else none)=_
 rw[h];rfl
@[simp] theorem Fl (a:Option Addr) (n c:Nat):sb (some false) (some 1) (.slice a n c)=some (.slice a n c):=rfl
@[simp] theorem qY (a:Option Addr) (n c:Nat):ax (.slice a n c)=true:=rfl
@[simp] theorem xH (u:Value):bf (some (aj u))=some (aj u):=rfl
@[simp] theorem tp (a:Addr):bf (some (.pointer (some a)))=some (.pointer (some a)):=rfl
theorem Wq.QW {f:FuncId}{args:List Value}{R1:Value->T OB->Nat->Prop}{k p:Value->T OB->Nat->Q}(hx:X f args=none)(h:uj P pl X (aN P pl (.call f args false none H nx)) nx0 H0 R1)
 (hk:∀u H' nx',Ag nx0 H0 nx' H'->R1 u H' nx'->aK P pl X (k u H' nx') nx0 H0 R):aK P pl X (ah (.call f args false none H nx) k p) nx0 H0 R:=by
 obtain⟨_,H1,aC,h1,⟨u,rfl,hR1⟩,h2⟩:=h
 obtain⟨v,H2,nx2,h3,hR,h4⟩:=hk u H1 aC h1 hR1
 refine⟨v,H2,nx2,h3,hR,?_⟩
 show aa (F P pl X (.call f args false none H nx)) (λr=>(match r.o with | .ret v=>k v r.H r.nx | .fR v=>p v r.H r.nx:Q).run (F P pl X)) none=_
 have e1:F P pl X (.call f args false none H nx)=some ⟨.ret u,false,H1,aC⟩:=by
  rw[oI]
  show @Option.rec Value (λ_=>Option Rt) _ (λv=>some ⟨.ret v,false,H,nx⟩) (X f args)=_
  rw[hx]
  exact h2
 rw[e1]
 exact h4
theorem Wq.gB {f:FuncId}{args:List Value}{R1:Go.Ev.Out->T OB->Nat->Prop}{k p:Value->T OB->Nat->Q}(hx:X f args=none)(h:aK P pl X (aN P pl (.call f args false none H nx)) nx0 H0 R1)
 (hk:∀u H' nx',Ag nx0 H0 nx' H'->R1 (.ret u) H' nx'->aK P pl X (k u H' nx') nx0 H0 R) (hp:∀u H' nx',Ag nx0 H0 nx' H'->R1 (.fR u) H' nx'->aK P pl X (p u H' nx') nx0 H0 R):aK P pl X (ah (.call f args false none H nx) k p) nx0 H0 R:=by
 obtain⟨o,H1,aC,h1,hR1,h2⟩:=h
 have e1:F P pl X (.call f args false none H nx)=some ⟨o,false,H1,aC⟩:=by
  rw[oI]
  show @Option.rec Value (λ_=>Option Rt) _ (λv=>some ⟨.ret v,false,H,nx⟩) (X f args)=_
  rw[hx]
  exact h2
 cases o with
 | ret u=>
   obtain⟨v,H2,nx2,h3,hR,h4⟩:=hk u H1 aC h1 hR1
   refine⟨v,H2,nx2,h3,hR,?_⟩
   show aa (F P pl X (.call f args false none H nx)) (λr=>(match r.o with | .ret v=>k v r.H r.nx | .fR v=>p v r.H r.nx:Q).run (F P pl X)) none=_
   rw[e1]
   exact h4
 | fR u=>
   obtain⟨v,H2,nx2,h3,hR,h4⟩:=hp u H1 aC h1 hR1
   refine⟨v,H2,nx2,h3,hR,?_⟩
   show aa (F P pl X (.call f args false none H nx)) (λr=>(match r.o with | .ret v=>k v r.H r.nx | .fR v=>p v r.H r.nx:Q).run (F P pl X)) none=_
   rw[e1]
   exact h4
theorem Wq.Fm {f:FuncId}{args:List Value}{k p:Value->T OB->Nat->Q}(hx:X f args=none)(h:Wq P pl X (aN P pl (.call f args false none H nx)) nx0 H0 u)
 (hk:∀H' nx',Ag nx0 H0 nx' H'->aK P pl X (k u H' nx') nx0 H0 R):aK P pl X (ah (.call f args false none H nx) k p) nx0 H0 R:=
 Wq.QW hx h λu' H' nx' hA hu=>by subst hu;exact hk H' nx' hA
theorem Ns {t e:TypeId}{x:Value}{k:Value->T OB->Nat->Q}(hu:P.underlying t=some (.slice e)):eH P t x H nx k=dK P t x H nx k:=by
 unfold dK
 rw[hu]
theorem I3 (ts:Array TypeId)(t:TypeId)(a b:Int):iZ P .max ts t (some [.int .i64 a,.int .i64 b])=some (.int .i64 (if b>a then b else a)):=by
 show(bif true&&(true&&true)then pW (cf P (builtin .max ts t #[] ⟨[.int .i64 a,.int .i64 b]⟩))else none)=_
 have e:cf P (builtin .max ts t #[] ⟨[.int .i64 a,.int .i64 b]⟩)=some (.value (.int .i64 (if b>a then b else a))):=by
  simp only[builtin,Builtin.max_]
  simp[cg,Builtin.max2]
  rfl
 rw[e]
 show(pT (.int .i64 (if b>a then b else a)) λv=>bif flat v then some v else none)=_
 rw[jg];rfl
theorem Wq.Tj {e t:TypeId}{l:List Value}{s:Nat}{x:Value}{k:T OB->Nat->Q}(hz:bS P e=some l)(hs:bh P t=some s)(hl:l.length=s)(hx:x.cells.toList.length=s)(hone:x.cells.toList.all ax=true)
 (h:Ag nx0 H0 nx H) (hk:∀H' nx',Ag nx0 H0 nx' H'->nx<=nx'->(∀b l e,b<nx->cG H b l e->cG H' b l e)->aK P pl X (k H' nx') nx0 H0 R):aK P pl X (ak (aq P H nx e) λp H nx=>bC P H nx t (some p) x k) nx0 H0 R:=by
 rw[jm hz]
 have hg:(Ev.set H (bits nx) (some (cS l e))).get (bits nx)=some (cS l e):=by rw[get_at,if_pos rfl]
 have e1:bC P (Ev.set H (bits nx) (some (cS l e))) (nx+1) t (some (jD nx)) x k=k (Ev.set (Ev.set H (bits nx) (some (cS l e))) (bits nx) (some .dead)) (nx+1+1):=by
  show lB ((Ev.set H (bits nx) (some (cS l e))).get (bits nx)) (λn _ _=>aa (bh P t) (λs=>bif Nat.beq 0 0&&(Nat.beq n s&&(Nat.beq x.cells.toList.length s&&x.cells.toList.all ax))then
   da (bits nx) (Ev.set H (bits nx) (some (cS l e))) (some .dead) λH=>Ev.bF (Nat.succ (nx+1)) λn=>k H n else .bad) .bad)=_
  rw[hg]
  show aa (bh P t) (λs=>bif Nat.beq 0 0&&(Nat.beq l.length s&&(Nat.beq x.cells.toList.length s&&x.cells.toList.all ax))then
   da (bits nx) (Ev.set H (bits nx) (some (cS l e))) (some .dead) λH=>Ev.bF (Nat.succ (nx+1)) λn=>k H n else .bad) .bad=_
  rw[hs,aJ,hl,hx,hone,a_,ba]
  have e2:Nat.beq s s=true:=Nat.beq_refl s
  rw[e2]
  rfl
 rw[e1]
 exact hk _ _ ((((h.set h.1 _).succ).set h.1 _).succ) (by omega) λb l e hb hi=>(hi.other (by omega) _).other (by omega) _
end
end
end Go.Ev
namespace Go.Proofs.YthjhonhhbddhkaaGreatDoor
open Go.Ev Go.RowKit
noncomputable section
set_option maxRecDepth 100000
set_option linter.unusedVariables false
set_option linter.unusedSimpArgs false
set_option maxHeartbeats 8000000
@[simp] theorem AN (c0 c1 c2 c3:Value):ab P 31 (some (aj (.agg ⟨[c0,c1,c2,c3]⟩))) 0=aa (bif ax c0 then some c0 else none) (λx=>some (aj x)) none:=by kernel_rfl
@[simp] theorem AO (c0 c1 c2 c3:Value):ab P 31 (some (aj (.agg ⟨[c0,c1,c2,c3]⟩))) 1=aa (bif ax c1 then some c1 else none) (λx=>some (aj x)) none:=by kernel_rfl
@[simp] theorem AP (c0 c1 c2 c3:Value):ab P 31 (some (aj (.agg ⟨[c0,c1,c2,c3]⟩))) 2=aa (bif ax c2 then some c2 else none) (λx=>some (aj x)) none:=by kernel_rfl
@[simp] theorem AQ (c0 c1 c2 c3:Value):ab P 31 (some (aj (.agg ⟨[c0,c1,c2,c3]⟩))) 3=aa (bif ax c3 then some c3 else none) (λx=>some (aj x)) none:=by kernel_rfl
@[simp] theorem AR (c0 c1 c2 c3 c4 c5:Value):ab P 44 (some (aj (.agg ⟨[c0,c1,c2,c3,c4,c5]⟩))) 0=aa (bif ax c0 then some c0 else none) (λx=>some (aj x)) none:=by kernel_rfl
@[simp] theorem AS (c0 c1 c2 c3 c4 c5:Value):ab P 44 (some (aj (.agg ⟨[c0,c1,c2,c3,c4,c5]⟩))) 1=aa (bif ax c1 then some c1 else none) (λx=>some (aj x)) none:=by kernel_rfl
@[simp] theorem AT (c0 c1 c2 c3 c4 c5:Value):ab P 44 (some (aj (.agg ⟨[c0,c1,c2,c3,c4,c5]⟩))) 2=aa (bif ax c2 then some c2 else none) (λx=>some (aj x)) none:=by kernel_rfl
@[simp] theorem AU (c0 c1 c2 c3 c4 c5:Value):ab P 44 (some (aj (.agg ⟨[c0,c1,c2,c3,c4,c5]⟩))) 3=aa (bif ax c3 then some c3 else none) (λx=>some (aj x)) none:=by kernel_rfl
@[simp] theorem AV (c0 c1 c2 c3 c4 c5:Value):ab P 44 (some (aj (.agg ⟨[c0,c1,c2,c3,c4,c5]⟩))) 4=aa (bif ax c4 then some c4 else none) (λx=>some (aj x)) none:=by kernel_rfl
@[simp] theorem AW (c0 c1 c2 c3 c4 c5:Value):ab P 44 (some (aj (.agg ⟨[c0,c1,c2,c3,c4,c5]⟩))) 5=aa (bif ax c5 then some c5 else none) (λx=>some (aj x)) none:=by kernel_rfl
@[simp] theorem AX (c0 c1 c2 c3:Value):ab P 47 (some (aj (.agg ⟨[c0,c1,c2,c3]⟩))) 0=aa (bif ax c0 then some c0 else none) (λx=>some (aj x)) none:=by kernel_rfl
@[simp] theorem AY (c0 c1 c2 c3:Value):ab P 47 (some (aj (.agg ⟨[c0,c1,c2,c3]⟩))) 1=aa (bif ax c1 then some c1 else none) (λx=>some (aj x)) none:=by kernel_rfl
@[simp] theorem AZ (c0 c1 c2 c3:Value):ab P 47 (some (aj (.agg ⟨[c0,c1,c2,c3]⟩))) 2=aa (bif ax c2 then some c2 else none) (λx=>some (aj x)) none:=by kernel_rfl
@[simp] theorem A0 (c0 c1 c2 c3:Value):ab P 47 (some (aj (.agg ⟨[c0,c1,c2,c3]⟩))) 3=aa (bif ax c3 then some c3 else none) (λx=>some (aj x)) none:=by kernel_rfl
@[simp] theorem A1 (c0 c1 c2:Value):ab P 52 (some (aj (.agg ⟨[c0,c1,c2]⟩))) 0=aa (bif ax c0 then some c0 else none) (λx=>some (aj x)) none:=by kernel_rfl
@[simp] theorem A2 (c0 c1 c2:Value):ab P 52 (some (aj (.agg ⟨[c0,c1,c2]⟩))) 1=aa (bif ax c1 then some c1 else none) (λx=>some (aj x)) none:=by kernel_rfl
@[simp] theorem A3 (c0 c1 c2:Value):ab P 52 (some (aj (.agg ⟨[c0,c1,c2]⟩))) 2=aa (bif ax c2 then some c2 else none) (λx=>some (aj x)) none:=by kernel_rfl
@[simp] theorem A4 (c0 c1:Value):ab P 55 (some (aj (.agg ⟨[c0,c1]⟩))) 0=aa (bif ax c0 then some c0 else none) (λx=>some (aj x)) none:=by kernel_rfl
@[simp] theorem A5 (c0 c1:Value):ab P 55 (some (aj (.agg ⟨[c0,c1]⟩))) 1=aa (bif ax c1 then some c1 else none) (λx=>some (aj x)) none:=by kernel_rfl
@[simp] theorem A6 (c0 c1 c2 c3 c4 c5 c6 c7 c8 c9 c10 c11 c12 c13 c14 c15 c16:Value):ab P 57 (some (aj (.agg ⟨[c0,c1,c2,c3,c4,c5,c6,c7,c8,c9,c10,c11,c12,c13,c14,c15,c16]⟩))) 0=aa (bif ax c0 then some c0 else none) (λx=>some (aj x)) none:=by kernel_rfl
@[simp] theorem A7 (c0 c1 c2 c3 c4 c5 c6 c7 c8 c9 c10 c11 c12 c13 c14 c15 c16:Value):ab P 57 (some (aj (.agg ⟨[c0,c1,c2,c3,c4,c5,c6,c7,c8,c9,c10,c11,c12,c13,c14,c15,c16]⟩))) 1=some (aj (.agg ⟨[c1,c2,c3,c4]⟩)):=by kernel_rfl
@[simp] theorem A8 (c0 c1 c2 c3 c4 c5 c6 c7 c8 c9 c10 c11 c12 c13 c14 c15 c16:Value):ab P 57 (some (aj (.agg ⟨[c0,c1,c2,c3,c4,c5,c6,c7,c8,c9,c10,c11,c12,c13,c14,c15,c16]⟩))) 2=some (aj (.agg ⟨[c5,c6,c7,c8,c9,c10]⟩)):=by kernel_rfl
@[simp] theorem A9 (c0 c1 c2 c3 c4 c5 c6 c7 c8 c9 c10 c11 c12 c13 c14 c15 c16:Value):ab P 57 (some (aj (.agg ⟨[c0,c1,c2,c3,c4,c5,c6,c7,c8,c9,c10,c11,c12,c13,c14,c15,c16]⟩))) 3=aa (bif ax c11 then some c11 else none) (λx=>some (aj x)) none:=by kernel_rfl
@[simp] theorem A_ (c0 c1 c2 c3 c4 c5 c6 c7 c8 c9 c10 c11 c12 c13 c14 c15 c16:Value):ab P 57 (some (aj (.agg ⟨[c0,c1,c2,c3,c4,c5,c6,c7,c8,c9,c10,c11,c12,c13,c14,c15,c16]⟩))) 4=some (aj (.agg ⟨[c12,c13,c14]⟩)):=by kernel_rfl
@[simp] theorem Ba (c0 c1 c2 c3 c4 c5 c6 c7 c8 c9 c10 c11 c12 c13 c14 c15 c16:Value):ab P 57 (some (aj (.agg ⟨[c0,c1,c2,c3,c4,c5,c6,c7,c8,c9,c10,c11,c12,c13,c14,c15,c16]⟩))) 5=some (aj (.agg ⟨[c15,c16]⟩)):=by kernel_rfl
@[simp] theorem Bb (c0 c1 c2 c3 c4 c5 c6 c7:Value):ab P 65 (some (aj (.agg ⟨[c0,c1,c2,c3,c4,c5,c6,c7]⟩))) 0=aa (bif ax c0 then some c0 else none) (λx=>some (aj x)) none:=by kernel_rfl
@[simp] theorem Bc (c0 c1 c2 c3 c4 c5 c6 c7:Value):ab P 65 (some (aj (.agg ⟨[c0,c1,c2,c3,c4,c5,c6,c7]⟩))) 1=aa (bif ax c1 then some c1 else none) (λx=>some (aj x)) none:=by kernel_rfl
@[simp] theorem Bd (c0 c1 c2 c3 c4 c5 c6 c7:Value):ab P 65 (some (aj (.agg ⟨[c0,c1,c2,c3,c4,c5,c6,c7]⟩))) 2=some (aj (.agg ⟨[c2,c3,c4,c5,c6,c7]⟩)):=by kernel_rfl
@[simp] theorem Be (c0:Value):ab P 69 (some (aj (.agg ⟨[c0]⟩))) 0=aa (bif ax c0 then some c0 else none) (λx=>some (aj x)) none:=by kernel_rfl
@[simp] theorem Bf (c0 c1:Value):ab P 73 (some (aj (.agg ⟨[c0,c1]⟩))) 0=aa (bif ax c0 then some c0 else none) (λx=>some (aj x)) none:=by kernel_rfl
@[simp] theorem Bg (c0 c1:Value):ab P 73 (some (aj (.agg ⟨[c0,c1]⟩))) 1=aa (bif ax c1 then some c1 else none) (λx=>some (aj x)) none:=by kernel_rfl
@[simp] theorem Bh (c0 c1 c2 c3:Value):ab P 77 (some (aj (.agg ⟨[c0,c1,c2,c3]⟩))) 0=aa (bif ax c0 then some c0 else none) (λx=>some (aj x)) none:=by kernel_rfl
@[simp] theorem Bi (c0 c1 c2 c3:Value):ab P 77 (some (aj (.agg ⟨[c0,c1,c2,c3]⟩))) 1=aa (bif ax c1 then some c1 else none) (λx=>some (aj x)) none:=by kernel_rfl
@[simp] theorem Bj (c0 c1 c2 c3:Value):ab P 77 (some (aj (.agg ⟨[c0,c1,c2,c3]⟩))) 2=aa (bif ax c2 then some c2 else none) (λx=>some (aj x)) none:=by kernel_rfl
@[simp] theorem Bk (c0 c1 c2 c3:Value):ab P 77 (some (aj (.agg ⟨[c0,c1,c2,c3]⟩))) 3=aa (bif ax c3 then some c3 else none) (λx=>some (aj x)) none:=by kernel_rfl
@[simp] theorem xI (c0 c1:Value):ab P 116 (some (aj (.agg ⟨[c0,c1]⟩))) 0=aa (bif ax c0 then some c0 else none) (λx=>some (aj x)) none:=by kernel_rfl
@[simp] theorem xJ (c0 c1:Value):ab P 116 (some (aj (.agg ⟨[c0,c1]⟩))) 1=aa (bif ax c1 then some c1 else none) (λx=>some (aj x)) none:=by kernel_rfl
@[simp] theorem xK (c0 c1 c2:Value):ab P 138 (some (aj (.agg ⟨[c0,c1,c2]⟩))) 0=aa (bif ax c0 then some c0 else none) (λx=>some (aj x)) none:=by kernel_rfl
@[simp] theorem xL (c0 c1 c2:Value):ab P 138 (some (aj (.agg ⟨[c0,c1,c2]⟩))) 1=aa (bif ax c1 then some c1 else none) (λx=>some (aj x)) none:=by kernel_rfl
@[simp] theorem xM (c0 c1 c2:Value):ab P 138 (some (aj (.agg ⟨[c0,c1,c2]⟩))) 2=aa (bif ax c2 then some c2 else none) (λx=>some (aj x)) none:=by kernel_rfl
@[simp] theorem xN (c0 c1:Value):ab P 194 (some (aj (.agg ⟨[c0,c1]⟩))) 0=aa (bif ax c0 then some c0 else none) (λx=>some (aj x)) none:=by kernel_rfl
@[simp] theorem xO (c0 c1:Value):ab P 194 (some (aj (.agg ⟨[c0,c1]⟩))) 1=aa (bif ax c1 then some c1 else none) (λx=>some (aj x)) none:=by kernel_rfl
@[simp] theorem Bl (b:Nat):ab P 31 (some (.pointer (some ⟨b,0,none⟩))) 0=some (.pointer (some ⟨b,0,none⟩)):=by kernel_rfl
@[simp] theorem Bm (b:Nat):ab P 31 (some (.pointer (some ⟨b,0,none⟩))) 1=some (.pointer (some ⟨b,1,none⟩)):=by kernel_rfl
@[simp] theorem Bn (b:Nat):ab P 31 (some (.pointer (some ⟨b,0,none⟩))) 2=some (.pointer (some ⟨b,2,none⟩)):=by kernel_rfl
@[simp] theorem Bo (b:Nat):ab P 31 (some (.pointer (some ⟨b,0,none⟩))) 3=some (.pointer (some ⟨b,3,none⟩)):=by kernel_rfl
@[simp] theorem Bp (b:Nat):ab P 44 (some (.pointer (some ⟨b,0,none⟩))) 0=some (.pointer (some ⟨b,0,none⟩)):=by kernel_rfl
@[simp] theorem Bq (b:Nat):ab P 44 (some (.pointer (some ⟨b,0,none⟩))) 1=some (.pointer (some ⟨b,1,none⟩)):=by kernel_rfl
@[simp] theorem Br (b:Nat):ab P 44 (some (.pointer (some ⟨b,0,none⟩))) 2=some (.pointer (some ⟨b,2,none⟩)):=by kernel_rfl
@[simp] theorem Bs (b:Nat):ab P 44 (some (.pointer (some ⟨b,0,none⟩))) 3=some (.pointer (some ⟨b,3,none⟩)):=by kernel_rfl
@[simp] theorem Bt (b:Nat):ab P 44 (some (.pointer (some ⟨b,0,none⟩))) 4=some (.pointer (some ⟨b,4,none⟩)):=by kernel_rfl
@[simp] theorem Bu (b:Nat):ab P 44 (some (.pointer (some ⟨b,0,none⟩))) 5=some (.pointer (some ⟨b,5,none⟩)):=by kernel_rfl
@[simp] theorem Bv (b:Nat):ab P 47 (some (.pointer (some ⟨b,0,none⟩))) 0=some (.pointer (some ⟨b,0,none⟩)):=by kernel_rfl
@[simp] theorem Bw (b:Nat):ab P 47 (some (.pointer (some ⟨b,0,none⟩))) 1=some (.pointer (some ⟨b,1,none⟩)):=by kernel_rfl
@[simp] theorem By (b:Nat):ab P 47 (some (.pointer (some ⟨b,0,none⟩))) 2=some (.pointer (some ⟨b,2,none⟩)):=by kernel_rfl
@[simp] theorem Bz (b:Nat):ab P 47 (some (.pointer (some ⟨b,0,none⟩))) 3=some (.pointer (some ⟨b,3,none⟩)):=by kernel_rfl
@[simp] theorem BA (b:Nat):ab P 52 (some (.pointer (some ⟨b,0,none⟩))) 0=some (.pointer (some ⟨b,0,none⟩)):=by kernel_rfl
@[simp] theorem BB (b:Nat):ab P 52 (some (.pointer (some ⟨b,0,none⟩))) 1=some (.pointer (some ⟨b,1,none⟩)):=by kernel_rfl
@[simp] theorem BC (b:Nat):ab P 52 (some (.pointer (some ⟨b,0,none⟩))) 2=some (.pointer (some ⟨b,2,none⟩)):=by kernel_rfl
@[simp] theorem BD (b:Nat):ab P 55 (some (.pointer (some ⟨b,0,none⟩))) 0=some (.pointer (some ⟨b,0,none⟩)):=by kernel_rfl
@[simp] theorem BE (b:Nat):ab P 55 (some (.pointer (some ⟨b,0,none⟩))) 1=some (.pointer (some ⟨b,1,none⟩)):=by kernel_rfl
@[simp] theorem um (b:Nat):ab P 57 (some (.pointer (some ⟨b,0,none⟩))) 0=some (.pointer (some ⟨b,0,none⟩)):=by kernel_rfl
@[simp] theorem uo (b:Nat):ab P 57 (some (.pointer (some ⟨b,0,none⟩))) 1=some (.pointer (some ⟨b,1,none⟩)):=by kernel_rfl
@[simp] theorem uq (b:Nat):ab P 57 (some (.pointer (some ⟨b,0,none⟩))) 2=some (.pointer (some ⟨b,5,none⟩)):=by kernel_rfl
@[simp] theorem mA (b:Nat):ab P 57 (some (.pointer (some ⟨b,0,none⟩))) 3=some (.pointer (some ⟨b,11,none⟩)):=by kernel_rfl
@[simp] theorem ur (b:Nat):ab P 57 (some (.pointer (some ⟨b,0,none⟩))) 4=some (.pointer (some ⟨b,12,none⟩)):=by kernel_rfl
@[simp] theorem uu (b:Nat):ab P 57 (some (.pointer (some ⟨b,0,none⟩))) 5=some (.pointer (some ⟨b,15,none⟩)):=by kernel_rfl
@[simp] theorem uv (b:Nat):ab P 65 (some (.pointer (some ⟨b,0,none⟩))) 0=some (.pointer (some ⟨b,0,none⟩)):=by kernel_rfl
@[simp] theorem uw (b:Nat):ab P 65 (some (.pointer (some ⟨b,0,none⟩))) 1=some (.pointer (some ⟨b,1,none⟩)):=by kernel_rfl
@[simp] theorem ux (b:Nat):ab P 65 (some (.pointer (some ⟨b,0,none⟩))) 2=some (.pointer (some ⟨b,2,none⟩)):=by kernel_rfl
@[simp] theorem BF (b:Nat):ab P 69 (some (.pointer (some ⟨b,0,none⟩))) 0=some (.pointer (some ⟨b,0,none⟩)):=by kernel_rfl
@[simp] theorem BG (b:Nat):ab P 73 (some (.pointer (some ⟨b,0,none⟩))) 0=some (.pointer (some ⟨b,0,none⟩)):=by kernel_rfl
@[simp] theorem BH (b:Nat):ab P 73 (some (.pointer (some ⟨b,0,none⟩))) 1=some (.pointer (some ⟨b,1,none⟩)):=by kernel_rfl
@[simp] theorem BI (b:Nat):ab P 77 (some (.pointer (some ⟨b,0,none⟩))) 0=some (.pointer (some ⟨b,0,none⟩)):=by kernel_rfl
@[simp] theorem BJ (b:Nat):ab P 77 (some (.pointer (some ⟨b,0,none⟩))) 1=some (.pointer (some ⟨b,1,none⟩)):=by kernel_rfl
@[simp] theorem BK (b:Nat):ab P 77 (some (.pointer (some ⟨b,0,none⟩))) 2=some (.pointer (some ⟨b,2,none⟩)):=by kernel_rfl
@[simp] theorem BL (b:Nat):ab P 77 (some (.pointer (some ⟨b,0,none⟩))) 3=some (.pointer (some ⟨b,3,none⟩)):=by kernel_rfl
@[simp] theorem xP (b:Nat):ab P 116 (some (.pointer (some ⟨b,0,none⟩))) 0=some (.pointer (some ⟨b,0,none⟩)):=by kernel_rfl
@[simp] theorem xQ (b:Nat):ab P 116 (some (.pointer (some ⟨b,0,none⟩))) 1=some (.pointer (some ⟨b,1,none⟩)):=by kernel_rfl
@[simp] theorem xR (b:Nat):ab P 138 (some (.pointer (some ⟨b,0,none⟩))) 0=some (.pointer (some ⟨b,0,none⟩)):=by kernel_rfl
@[simp] theorem xS (b:Nat):ab P 138 (some (.pointer (some ⟨b,0,none⟩))) 1=some (.pointer (some ⟨b,1,none⟩)):=by kernel_rfl
@[simp] theorem xT (b:Nat):ab P 138 (some (.pointer (some ⟨b,0,none⟩))) 2=some (.pointer (some ⟨b,2,none⟩)):=by kernel_rfl
@[simp] theorem xU (b:Nat):ab P 194 (some (.pointer (some ⟨b,0,none⟩))) 0=some (.pointer (some ⟨b,0,none⟩)):=by kernel_rfl
@[simp] theorem xV (b:Nat):ab P 194 (some (.pointer (some ⟨b,0,none⟩))) 1=some (.pointer (some ⟨b,1,none⟩)):=by kernel_rfl
theorem Fo (b o:Nat):ab P 55 (some (.pointer (some ⟨b,o,none⟩))) 1=some (.pointer (some ⟨b,o+1,none⟩)):=Fk (by kernel_rfl)
@[simp] theorem BM (c0 c1 c2 c3:Value):rdField P 31 (some (.agg ⟨[c0,c1,c2,c3]⟩)) 0=some c0:=by kernel_rfl
@[simp] theorem BN (c0 c1 c2 c3:Value):rdField P 31 (some (.agg ⟨[c0,c1,c2,c3]⟩)) 1=some c1:=by kernel_rfl
@[simp] theorem BO (c0 c1 c2 c3:Value):rdField P 31 (some (.agg ⟨[c0,c1,c2,c3]⟩)) 2=some c2:=by kernel_rfl
@[simp] theorem BP (c0 c1 c2 c3:Value):rdField P 31 (some (.agg ⟨[c0,c1,c2,c3]⟩)) 3=some c3:=by kernel_rfl
@[simp] theorem QX (H:T OB) (u:Value):ae P H 2 (some (aj u))=sb (some false) (some 1) u:=by kernel_rfl
@[simp] theorem QY (H:T OB) (u:Value):ae P H 3 (some (aj u))=sb (some false) (some 1) u:=by kernel_rfl
@[simp] theorem QZ (H:T OB) (u:Value):ae P H 4 (some (aj u))=sb (some false) (some 1) u:=by kernel_rfl
@[simp] theorem Nt (H:T OB) (u:Value):ae P H 9 (some (aj u))=sb (some false) (some 1) u:=by kernel_rfl
@[simp] theorem LH (H:T OB) (u:Value):ae P H 24 (some (aj u))=sb (some false) (some 1) u:=by kernel_rfl
@[simp] theorem LI (H:T OB) (u:Value):ae P H 25 (some (aj u))=sb (some false) (some 1) u:=by kernel_rfl
@[simp] theorem LJ (H:T OB) (u:Value):ae P H 29 (some (aj u))=sb (some false) (some 1) u:=by kernel_rfl
@[simp] theorem LK (H:T OB) (c0 c1 c2 c3:Value):ae P H 31 (some (aj (.agg ⟨[c0,c1,c2,c3]⟩)))=some (.agg ⟨[c0,c1,c2,c3]⟩):=by kernel_rfl
@[simp] theorem LL (H:T OB) (u:Value):ae P H 41 (some (aj u))=sb (some false) (some 1) u:=by kernel_rfl
@[simp] theorem LM (H:T OB) (u:Value):ae P H 42 (some (aj u))=sb (some false) (some 1) u:=by kernel_rfl
@[simp] theorem Fp (H:T OB) (c0 c1 c2 c3 c4 c5:Value):ae P H 44 (some (aj (.agg ⟨[c0,c1,c2,c3,c4,c5]⟩)))=some (.agg ⟨[c0,c1,c2,c3,c4,c5]⟩):=by kernel_rfl
@[simp] theorem Fq (H:T OB) (c0 c1 c2 c3:Value):ae P H 47 (some (aj (.agg ⟨[c0,c1,c2,c3]⟩)))=some (.agg ⟨[c0,c1,c2,c3]⟩):=by kernel_rfl
@[simp] theorem LN (H:T OB) (u:Value):ae P H 48 (some (aj u))=sb (some false) (some 1) u:=by kernel_rfl
@[simp] theorem LO (H:T OB) (u:Value):ae P H 49 (some (aj u))=sb (some false) (some 1) u:=by kernel_rfl
@[simp] theorem LP (H:T OB) (u:Value):ae P H 50 (some (aj u))=sb (some false) (some 1) u:=by kernel_rfl
@[simp] theorem Fs (H:T OB) (c0 c1 c2:Value):ae P H 52 (some (aj (.agg ⟨[c0,c1,c2]⟩)))=some (.agg ⟨[c0,c1,c2]⟩):=by kernel_rfl
@[simp] theorem LQ (H:T OB) (u:Value):ae P H 53 (some (aj u))=sb (some false) (some 1) u:=by kernel_rfl
@[simp] theorem Ft (H:T OB) (c0 c1:Value):ae P H 55 (some (aj (.agg ⟨[c0,c1]⟩)))=some (.agg ⟨[c0,c1]⟩):=by kernel_rfl
@[simp] theorem Fu (H:T OB) (c0 c1 c2 c3 c4 c5 c6 c7 c8 c9 c10 c11 c12 c13 c14 c15 c16:Value):ae P H 57 (some (aj (.agg ⟨[c0,c1,c2,c3,c4,c5,c6,c7,c8,c9,c10,c11,c12,c13,c14,c15,c16]⟩)))=some (.agg ⟨[c0,c1,c2,c3,c4,c5,c6,c7,c8,c9,c10,c11,c12,c13,c14,c15,c16]⟩):=by kernel_rfl
@[simp] theorem Fv (H:T OB) (c0 c1 c2 c3 c4 c5 c6 c7:Value):ae P H 65 (some (aj (.agg ⟨[c0,c1,c2,c3,c4,c5,c6,c7]⟩)))=some (.agg ⟨[c0,c1,c2,c3,c4,c5,c6,c7]⟩):=by kernel_rfl
@[simp] theorem zr (H:T OB) (c0 c1 c2:Value):ae P H 138 (some (aj (.agg ⟨[c0,c1,c2]⟩)))=some (.agg ⟨[c0,c1,c2]⟩):=by kernel_rfl
@[simp] theorem Fw (H:T OB) (c0 c1 c2 c3 c4 c5 c6:Value):ae P H 182 (some (aj (.agg ⟨[c0,c1,c2,c3,c4,c5,c6]⟩)))=some (.agg ⟨[c0,c1,c2,c3,c4,c5,c6]⟩):=by kernel_rfl
theorem BQ {es:List Value}{i:Nat}{u:Value}(h:es[i]? = some u)(k:IntKind):au P 24 (some (bc 17 es)) (some (.int k (i:Int)))=some (aj u):=dR (by kernel_rfl) h k
theorem tq {es:List Value}{i:Nat}{u:Value}(h:es[i]? = some u)(k:IntKind):au P 29 (some (bc 4 es)) (some (.int k (i:Int)))=some (aj u):=dR (by kernel_rfl) h k
theorem BR {es:List Value}{i:Nat}{u:Value}(h:es[i]? = some u)(k:IntKind):au P 41 (some (bc 6 es)) (some (.int k (i:Int)))=some (aj u):=dR (by kernel_rfl) h k
theorem oc {es:List Value}{i:Nat}{u:Value}(h:es[i]? = some u)(k:IntKind):au P 42 (some (bc 4 es)) (some (.int k (i:Int)))=some (aj u):=dR (by kernel_rfl) h k
theorem tt {es:List Value}{i:Nat}{u:Value}(h:es[i]? = some u)(k:IntKind):au P 48 (some (bc 8 es)) (some (.int k (i:Int)))=some (aj u):=dR (by kernel_rfl) h k
theorem xW {es:List Value}{i:Nat}{u:Value}(h:es[i]? = some u)(k:IntKind):au P 49 (some (bc 1 es)) (some (.int k (i:Int)))=some (aj u):=dR (by kernel_rfl) h k
theorem xX {es:List Value}{i:Nat}{u:Value}(h:es[i]? = some u)(k:IntKind):au P 50 (some (bc 2 es)) (some (.int k (i:Int)))=some (aj u):=dR (by kernel_rfl) h k
theorem qZ {es:List Value}{i:Nat}{u:Value}(h:es[i]? = some u)(k:IntKind):au P 53 (some (bc 3 es)) (some (.int k (i:Int)))=some (aj u):=dR (by kernel_rfl) h k
theorem Fy {b off len c i:Nat}(h:i<len)(k:IntKind):au P 49 (some (.slice (some ⟨b,off,none⟩) len c)) (some (.int k (i:Int)))=some (.pointer (some ⟨b,off+i*1,none⟩)):=gW (by kernel_rfl) h k
theorem gd:P.underlying 24=some (.slice 57):=by kernel_rfl
theorem Fz:P.underlying 29=some (.slice 31):=by kernel_rfl
theorem fc:P.underlying 41=some (.slice 44):=by kernel_rfl
theorem ed:P.underlying 42=some (.slice 47):=by kernel_rfl
theorem q6:P.underlying 48=some (.slice 65):=by kernel_rfl
theorem fK:P.underlying 49=some (.slice 9):=by kernel_rfl
theorem lO:P.underlying 50=some (.slice 55):=by kernel_rfl
theorem ee:P.underlying 53=some (.slice 138):=by kernel_rfl
theorem cO:P.underlying 120=some (.slice 5):=by kernel_rfl
@[simp] theorem LS (s:ByteArray) (ty:TypeId):aM P #[9] ty (some [.string s])=some (.int .i64 (s.size:Int)):=bt s (by kernel_rfl)
@[simp] theorem FA (s:Nat) (es:List Value) (ty:TypeId):aM P #[24] ty (some [bc s es])=some (.int .i64 (es.length:Int)):=dM s es (by kernel_rfl)
@[simp] theorem BT (ty:TypeId) (a:Addr) (n c:Nat):aM P #[24] ty (some [.slice (some a) n c])=some (.int .i64 (n:Int)):=dN (by kernel_rfl)
@[simp] theorem BV (ty:TypeId):aM P #[24] ty (some [.slice none 0 0])=some (.int .i64 0):=by kernel_rfl
@[simp] theorem FC (s:Nat) (es:List Value) (ty:TypeId):aM P #[29] ty (some [bc s es])=some (.int .i64 (es.length:Int)):=dM s es (by kernel_rfl)
@[simp] theorem BW (ty:TypeId) (a:Addr) (n c:Nat):aM P #[29] ty (some [.slice (some a) n c])=some (.int .i64 (n:Int)):=dN (by kernel_rfl)
@[simp] theorem BX (ty:TypeId):aM P #[29] ty (some [.slice none 0 0])=some (.int .i64 0):=by kernel_rfl
@[simp] theorem FE (s:Nat) (es:List Value) (ty:TypeId):aM P #[41] ty (some [bc s es])=some (.int .i64 (es.length:Int)):=dM s es (by kernel_rfl)
@[simp] theorem BY (ty:TypeId) (a:Addr) (n c:Nat):aM P #[41] ty (some [.slice (some a) n c])=some (.int .i64 (n:Int)):=dN (by kernel_rfl)
@[simp] theorem BZ (ty:TypeId):aM P #[41] ty (some [.slice none 0 0])=some (.int .i64 0):=by kernel_rfl
@[simp] theorem FF (s:Nat) (es:List Value) (ty:TypeId):aM P #[42] ty (some [bc s es])=some (.int .i64 (es.length:Int)):=dM s es (by kernel_rfl)
@[simp] theorem B0 (ty:TypeId) (a:Addr) (n c:Nat):aM P #[42] ty (some [.slice (some a) n c])=some (.int .i64 (n:Int)):=dN (by kernel_rfl)
@[simp] theorem B1 (ty:TypeId):aM P #[42] ty (some [.slice none 0 0])=some (.int .i64 0):=by kernel_rfl
@[simp] theorem uy (s:Nat) (es:List Value) (ty:TypeId):aM P #[48] ty (some [bc s es])=some (.int .i64 (es.length:Int)):=dM s es (by kernel_rfl)
@[simp] theorem B2 (ty:TypeId) (a:Addr) (n c:Nat):aM P #[48] ty (some [.slice (some a) n c])=some (.int .i64 (n:Int)):=dN (by kernel_rfl)
@[simp] theorem uz (ty:TypeId):aM P #[48] ty (some [.slice none 0 0])=some (.int .i64 0):=by kernel_rfl
@[simp] theorem FG (s:Nat) (es:List Value) (ty:TypeId):aM P #[49] ty (some [bc s es])=some (.int .i64 (es.length:Int)):=dM s es (by kernel_rfl)
@[simp] theorem B3 (ty:TypeId) (a:Addr) (n c:Nat):aM P #[49] ty (some [.slice (some a) n c])=some (.int .i64 (n:Int)):=dN (by kernel_rfl)
@[simp] theorem B4 (ty:TypeId):aM P #[49] ty (some [.slice none 0 0])=some (.int .i64 0):=by kernel_rfl
@[simp] theorem FH (s:Nat) (es:List Value) (ty:TypeId):aM P #[50] ty (some [bc s es])=some (.int .i64 (es.length:Int)):=dM s es (by kernel_rfl)
@[simp] theorem B5 (ty:TypeId) (a:Addr) (n c:Nat):aM P #[50] ty (some [.slice (some a) n c])=some (.int .i64 (n:Int)):=dN (by kernel_rfl)
@[simp] theorem B6 (ty:TypeId):aM P #[50] ty (some [.slice none 0 0])=some (.int .i64 0):=by kernel_rfl
@[simp] theorem FI (s:Nat) (es:List Value) (ty:TypeId):aM P #[53] ty (some [bc s es])=some (.int .i64 (es.length:Int)):=dM s es (by kernel_rfl)
@[simp] theorem B7 (ty:TypeId) (a:Addr) (n c:Nat):aM P #[53] ty (some [.slice (some a) n c])=some (.int .i64 (n:Int)):=dN (by kernel_rfl)
@[simp] theorem B8 (ty:TypeId):aM P #[53] ty (some [.slice none 0 0])=some (.int .i64 0):=by kernel_rfl
@[simp] theorem B9 (s:Nat) (es:List Value) (ty:TypeId):aM P #[120] ty (some [bc s es])=some (.int .i64 (es.length:Int)):=dM s es (by kernel_rfl)
@[simp] theorem xY (ty:TypeId) (a:Addr) (n c:Nat):aM P #[120] ty (some [.slice (some a) n c])=some (.int .i64 (n:Int)):=dN (by kernel_rfl)
@[simp] theorem xZ (ty:TypeId):aM P #[120] ty (some [.slice none 0 0])=some (.int .i64 0):=by kernel_rfl
theorem Nu:bS P 3=some [(.int .i64 0)]:=by kernel_rfl
theorem I4:bS P 24=some [(.slice none 0 0)]:=by kernel_rfl
theorem I5:bS P 25=some [(.int .i64 0)]:=by kernel_rfl
theorem e8:bS P 31=some [(.int .i64 0),(.string ⟨⟨[]⟩⟩),(.int .i64 0),(.int .i64 0)]:=by kernel_rfl
theorem aV:bS P 44=some [(.int .i64 0),(.int .i64 0),(.string ⟨⟨[]⟩⟩),(.slice none 0 0),(.slice none 0 0),(.slice none 0 0)]:=by kernel_rfl
theorem cE:bS P 47=some [(.int .i64 0),(.int .i64 0),(.string ⟨⟨[]⟩⟩),(.slice none 0 0)]:=by kernel_rfl
theorem oT:bS P 52=some [(.slice none 0 0),(.string ⟨⟨[]⟩⟩),(.slice none 0 0)]:=by kernel_rfl
theorem fL:bS P 55=some [(.string ⟨⟨[]⟩⟩),(.slice none 0 0)]:=by kernel_rfl
theorem cJ:bS P 57=some [(.int .i64 0),(.int .i64 0),(.int .i64 0),(.string ⟨⟨[]⟩⟩),(.slice none 0 0),(.int .i64 0),(.int .i64 0),(.string ⟨⟨[]⟩⟩),(.slice none 0 0),(.slice none 0 0),(.slice none 0 0),(.slice none 0 0),(.slice none 0 0),(.string ⟨⟨[]⟩⟩),(.slice none 0 0),(.string ⟨⟨[]⟩⟩),(.slice none 0 0)]:=by kernel_rfl
theorem eK:bS P 65=some [(.string ⟨⟨[]⟩⟩),(.slice none 0 0),(.int .i64 0),(.int .i64 0),(.string ⟨⟨[]⟩⟩),(.slice none 0 0),(.slice none 0 0),(.slice none 0 0)]:=by kernel_rfl
theorem I6:bS P 69=some [(.int .i64 0)]:=by kernel_rfl
theorem cb:bS P 138=some [(.int .i64 0),(.string ⟨⟨[]⟩⟩),(.slice none 0 0)]:=by kernel_rfl
theorem FJ:bS P 168=some [(.int .u8 0),(.int .u8 0),(.int .u8 0),(.int .u8 0),(.int .u8 0),(.int .u8 0),(.int .u8 0),(.int .u8 0),(.int .u8 0),(.int .u8 0),(.int .u8 0),(.int .u8 0),(.int .u8 0),(.int .u8 0),(.int .u8 0),(.int .u8 0),(.int .u8 0),(.int .u8 0),(.int .u8 0),(.int .u8 0)]:=by kernel_rfl
theorem FK:bS P 194=some [(.string ⟨⟨[]⟩⟩),(.int .i64 0)]:=by kernel_rfl
theorem od:dh P 3=some false:=by kernel_rfl
theorem Q0:dh P 4=some false:=by kernel_rfl
theorem Q2:dh P 5=some false:=by kernel_rfl
theorem tu:dh P 9=some false:=by kernel_rfl
theorem kc:dh P 24=some false:=by kernel_rfl
theorem uA:dh P 25=some false:=by kernel_rfl
theorem FL:dh P 29=some false:=by kernel_rfl
theorem q7:dh P 31=some true:=by kernel_rfl
theorem gX:dh P 41=some false:=by kernel_rfl
theorem gf:dh P 42=some false:=by kernel_rfl
theorem bN:dh P 44=some true:=by kernel_rfl
theorem cm:dh P 47=some true:=by kernel_rfl
theorem q_:dh P 48=some false:=by kernel_rfl
theorem gg:dh P 49=some false:=by kernel_rfl
theorem uB:dh P 50=some false:=by kernel_rfl
theorem zt:dh P 52=some true:=by kernel_rfl
theorem uC:dh P 53=some false:=by kernel_rfl
theorem lP:dh P 55=some true:=by kernel_rfl
theorem fe:dh P 57=some true:=by kernel_rfl
theorem uD:dh P 65=some true:=by kernel_rfl
theorem e_:dh P 138=some true:=by kernel_rfl
theorem zu:bh P 3=some 1:=by kernel_rfl
theorem Tk:bh P 4=some 1:=by kernel_rfl
theorem gY:bh P 5=some 1:=by kernel_rfl
theorem ke:bh P 9=some 1:=by kernel_rfl
theorem ra:bh P 24=some 1:=by kernel_rfl
theorem B_:bh P 25=some 1:=by kernel_rfl
theorem fT:bh P 31=some 4:=by kernel_rfl
theorem re:bh P 41=some 1:=by kernel_rfl
theorem oe:bh P 42=some 1:=by kernel_rfl
theorem bu:bh P 44=some 6:=by kernel_rfl
theorem bT:bh P 47=some 4:=by kernel_rfl
theorem LU:bh P 48=some 1:=by kernel_rfl
theorem tv:bh P 49=some 1:=by kernel_rfl
theorem FM:bh P 50=some 1:=by kernel_rfl
theorem x_:bh P 52=some 3:=by kernel_rfl
theorem FO:bh P 53=some 1:=by kernel_rfl
theorem gZ:bh P 55=some 2:=by kernel_rfl
theorem di:bh P 57=some 17:=by kernel_rfl
theorem iP:bh P 65=some 8:=by kernel_rfl
theorem Q3:bh P 69=some 1:=by kernel_rfl
theorem bI:bh P 138=some 3:=by kernel_rfl
theorem Nv:bh P 194=some 2:=by kernel_rfl
@[simp] theorem FP (H:T OB) (q a b:Bool):al P H .eql 4 q (some (.bool a)) (some (.bool b))=some (.bool (a == b)):=by cases q<;>cases a<;>cases b<;>kernel_rfl
theorem cT {α:Type}(a b:α):(bif true then a else b)=a:=rfl
theorem cF {α:Type}(a b:α):(bif false then a else b)=b:=rfl
theorem eS {α:Type}(a:α):(a=a)=True:=eq_self a
theorem lN {α:Type}:([]:List α).length=0:=rfl
theorem af:type_of% (And.intro @cT (And.intro @cF (And.intro @eS (And.intro @lN (And.intro @nZ (And.intro @ik (And.intro @mw (And.intro @n_ (And.intro @qT (And.intro @my (And.intro @aJ (And.intro @AK (And.intro @AL (And.intro @xF (And.intro @AM (And.intro @Fg (And.intro @xG (And.intro @tc (And.intro @td (And.intro @te (And.intro @tg (And.intro @th (And.intro @ti (And.intro @tj (And.intro @tl (And.intro @tn (And.intro @qU (And.intro @qV (And.intro @uk (And.intro @qW (And.intro @l7 (And.intro @l8 (And.intro @Bool.not_true (And.intro @Bool.not_false (And.intro @Bool.not_not (And.intro @xH (And.intro @tp (And.intro @qY (And.intro @Fl (And.intro @bj (And.intro @Int.cast_ofNat_Int (And.intro @decide_true (And.intro @decide_false (And.intro @Bool.and_self (And.intro @AN (And.intro @AO (And.intro @AP (And.intro @AQ (And.intro @AR (And.intro @AS (And.intro @AT (And.intro @AU (And.intro @AV (And.intro @AW (And.intro @AX (And.intro @AY (And.intro @AZ (And.intro @A0 (And.intro @A1 (And.intro @A2 (And.intro @A3 (And.intro @A4 (And.intro @A5 (And.intro @A6 (And.intro @A7 (And.intro @A8 (And.intro @A9 (And.intro @A_ (And.intro @Ba (And.intro @Bb (And.intro @Bc (And.intro @Bd (And.intro @Be (And.intro @Bf (And.intro @Bg (And.intro @Bh (And.intro @Bi (And.intro @Bj (And.intro @Bk (And.intro @xI (And.intro @xJ (And.intro @xK (And.intro @xL (And.intro @xM (And.intro @xN (And.intro @xO (And.intro @Bl (And.intro @Bm (And.intro @Bn (And.intro @Bo (And.intro @Bp (And.intro @Bq (And.intro @Br (And.intro @Bs (And.intro @Bt (And.intro @Bu (And.intro @Bv (And.intro @Bw (And.intro @By (And.intro @Bz (And.intro @BA (And.intro @BB (And.intro @BC (And.intro @BD (And.intro @BE (And.intro @um (And.intro @uo (And.intro @uq (And.intro @mA (And.intro @ur (And.intro @uu (And.intro @uv (And.intro @uw (And.intro @ux (And.intro @BF (And.intro @BG (And.intro @BH (And.intro @BI (And.intro @BJ (And.intro @BK (And.intro @BL (And.intro @xP (And.intro @xQ (And.intro @xR (And.intro @xS (And.intro @xT (And.intro @xU (And.intro @xV (And.intro @BM (And.intro @BN (And.intro @BO (And.intro @BP (And.intro @QX (And.intro @QY (And.intro @QZ (And.intro @Nt (And.intro @LH (And.intro @LI (And.intro @LJ (And.intro @LK (And.intro @LL (And.intro @LM (And.intro @Fp (And.intro @Fq (And.intro @LN (And.intro @LO (And.intro @LP (And.intro @Fs (And.intro @LQ (And.intro @Ft (And.intro @Fu (And.intro @Fv (And.intro @zr (And.intro @Fw (And.intro @LS (And.intro @FA (And.intro @BT (And.intro @BV (And.intro @FC (And.intro @BW (And.intro @BX (And.intro @FE (And.intro @BY (And.intro @BZ (And.intro @FF (And.intro @B0 (And.intro @B1 (And.intro @uy (And.intro @B2 (And.intro @uz (And.intro @FG (And.intro @B3 (And.intro @B4 (And.intro @FH (And.intro @B5 (And.intro @B6 (And.intro @FI (And.intro @B7 (And.intro @B8 (And.intro @B9 (And.intro @xY (And.intro @xZ @FP)))))))))))))))))))))))))))))))))))))))))))))))))))))))))))))))))))))))))))))))))))))))))))))))))))))))))))))))))))))))))))))))))))))))))))))))))))))))))))))))))))))))))))))))))))))):=And.intro @cT (And.intro @cF (And.intro @eS (And.intro @lN (And.intro @nZ (And.intro @ik (And.intro @mw (And.intro @n_ (And.intro @qT (And.intro @my (And.intro @aJ (And.intro @AK (And.intro @AL (And.intro @xF (And.intro @AM (And.intro @Fg (And.intro @xG (And.intro @tc (And.intro @td (And.intro @te (And.intro @tg (And.intro @th (And.intro @ti (And.intro @tj (And.intro @tl (And.intro @tn (And.intro @qU (And.intro @qV (And.intro @uk (And.intro @qW (And.intro @l7 (And.intro @l8 (And.intro @Bool.not_true (And.intro @Bool.not_false (And.intro @Bool.not_not (And.intro @xH (And.intro @tp (And.intro @qY (And.intro @Fl (And.intro @bj (And.intro @Int.cast_ofNat_Int (And.intro @decide_true (And.intro @decide_false (And.intro @Bool.and_self (And.intro @AN (And.intro @AO (And.intro @AP (And.intro @AQ (And.intro @AR (And.intro @AS (And.intro @AT (And.intro @AU (And.intro @AV (And.intro @AW (And.intro @AX (And.intro @AY (And.intro @AZ (And.intro @A0 (And.intro @A1 (And.intro @A2 (And.intro @A3 (And.intro @A4 (And.intro @A5 (And.intro @A6 (And.intro @A7 (And.intro @A8 (And.intro @A9 (And.intro @A_ (And.intro @Ba (And.intro @Bb (And.intro @Bc (And.intro @Bd (And.intro @Be (And.intro @Bf (And.intro @Bg (And.intro @Bh (And.intro @Bi (And.intro @Bj (And.intro @Bk (And.intro @xI (And.intro @xJ (And.intro @xK (And.intro @xL (And.intro @xM (And.intro @xN (And.intro @xO (And.intro @Bl (And.intro @Bm (And.intro @Bn (And.intro @Bo (And.intro @Bp (And.intro @Bq (And.intro @Br (And.intro @Bs (And.intro @Bt (And.intro @Bu (And.intro @Bv (And.intro @Bw (And.intro @By (And.intro @Bz (And.intro @BA (And.intro @BB (And.intro @BC (And.intro @BD (And.intro @BE (And.intro @um (And.intro @uo (And.intro @uq (And.intro @mA (And.intro @ur (And.intro @uu (And.intro @uv (And.intro @uw (And.intro @ux (And.intro @BF (And.intro @BG (And.intro @BH (And.intro @BI (And.intro @BJ (And.intro @BK (And.intro @BL (And.intro @xP (And.intro @xQ (And.intro @xR (And.intro @xS (And.intro @xT (And.intro @xU (And.intro @xV (And.intro @BM (And.intro @BN (And.intro @BO (And.intro @BP (And.intro @QX (And.intro @QY (And.intro @QZ (And.intro @Nt (And.intro @LH (And.intro @LI (And.intro @LJ (And.intro @LK (And.intro @LL (And.intro @LM (And.intro @Fp (And.intro @Fq (And.intro @LN (And.intro @LO (And.intro @LP (And.intro @Fs (And.intro @LQ (And.intro @Ft (And.intro @Fu (And.intro @Fv (And.intro @zr (And.intro @Fw (And.intro @LS (And.intro @FA (And.intro @BT (And.intro @BV (And.intro @FC (And.intro @BW (And.intro @BX (And.intro @FE (And.intro @BY (And.intro @BZ (And.intro @FF (And.intro @B0 (And.intro @B1 (And.intro @uy (And.intro @B2 (And.intro @uz (And.intro @FG (And.intro @B3 (And.intro @B4 (And.intro @FH (And.intro @B5 (And.intro @B6 (And.intro @FI (And.intro @B7 (And.intro @B8 (And.intro @B9 (And.intro @xY (And.intro @xZ @FP)))))))))))))))))))))))))))))))))))))))))))))))))))))))))))))))))))))))))))))))))))))))))))))))))))))))))))))))))))))))))))))))))))))))))))))))))))))))))))))))))))))))))))))))))))))
end
end Go.Proofs.YthjhonhhbddhkaaGreatDoor
