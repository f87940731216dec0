/- Texts of this claim, side by side. -/
import Derived.Test.YthjhonhhbddhkaaGreatDoorG2
import Derived.Laws.Strings
import Derived.Test.YthjhonhhbddhkaaGreatDoorProg
import Derived.KernelRfl
namespace Go.Ev
open Go.RowKit (Below)
noncomputable section
set_option maxRecDepth 100000
set_option linter.unusedVariables false
set_option linter.unusedSimpArgs false
section
variable {P:Program}{W w w' w1:World}{f fn:FuncId}{cs cs0:List Frame}{r r1:Rt}{fr fr' fr1:Frame}{φ φ' φ1:bZ}{H H' H1:T OB}{nx nx' aJ nt lo hi:Nat}{tm:T Value}{tmps:Array Value}{ops:Array Oper}
 {todo k:List Item} {c:Cg} {ds:List Deferred} {kd:Bool} {O:bI->Option Rt} {pl:ig}
theorem cH.OV {rc:Bool}{fr1:Frame}(hm:fr.mode= .run)(hs:step P (lone fr (du rc cs0) w)= .next (lone fr1 (du rc cs0) w))(h:cH P W kd fn lo cs0 rc φ H r fr w):cH P W kd fn lo cs0 rc φ H r fr1 w:=by
 obtain⟨φ',w',frl,⟨n,hn⟩,h2,h3,h4,h5,h6,h7,h8⟩:=h;refine⟨φ',w',frl,?_,h2,h3,h4,h5,h6,h7,h8⟩;cases n with
 | zero=>
   exfalso;have hn:Stepped.next (lone fr (du rc cs0) w)= .next (lone frl (du r.rc cs0) w'):=hn
   have e:fr.mode=frl.mode:=by
    injection hn with hn
    simp only[lone]at hn
    simp_all
   rw[hm]at e;cases hr:r.o with
   | ret v=>rw[hr]at h8;obtain⟨v',_,hg⟩:=h8;rw[hg.1]at e;cases e
   | eR v=>rw[hr]at h8;obtain⟨v',_,hg⟩:=h8;rw[hg.1]at e;cases e
 | succ n=>
   refine⟨n,?_⟩;simp only[runN,hs]at hn;exact hn
theorem l5 (t:Nat)(v:Value):∀l:List Nat,(qg tm l).get (bits t)=some v->tm.get (bits t)=some v
 | [],h=>by rw[show qg tm []= .leaf from rfl,gO]at h;cases h
 | s::l,h=>by
   have h:(aa (tm.get (bits s)) (λv=>cJ (bits s) (qg tm l) (some v) id) (qg tm l)).get (bits t)=some v:=h;cases hs:tm.get (bits s)with
   | none=>rw[hs]at h;exact l5 t v l h
   | some u=>
     have h2:(set (qg tm l) (bits s) (some u)).get (bits t)=some v:=by
      rw[hs,aN,aY]at h;exact h
     clear h;rw[get_at]at h2;split at h2
     . rename_i q;subst q;exact hs.trans h2
     . exact l5 t v l h2
theorem Bw {key:Nat}{t:Nat}{v:Value}(h:(t_ pl fn key tm).get (bits t)=some v):tm.get (bits t)=some v:=by
 unfold t_ at h;split at h
 . exact h
 . cases hl:B7 fn key _ with
   | none=>rw[hl]at h;exact h
   | some l=>rw[hl]at h;exact l5 t v l h
theorem k8.mask {key:Nat}(h:k8 P W c (t_ pl fn key tm) todo H nx r):k8 P W c tm todo H nx r:=λφ w lo tmps ds cs0 x htr=>
 h φ w lo tmps ds cs0 x λt v hv=>htr t v (Bw hv)
theorem k9 (hO:iQ P W O)(todo:List Item):xY P W O (ua pl todo) todo:=λc tm H nx r h=>
 k8.mask (show k8 P W c (t_ pl c.fn (JO todo) tm) todo H nx r from hO _ _ (Cz h))
theorem x_ (todo:List Item):xY P W O v9 todo:=λc tm H nx r h=>(e8 h).elim
def Im (P:Program)(W:World)(O:bI->Option Rt)(E:List (Nat×Kt))(k:List Item):Prop:=∀id,n8 id E=v9\/∃k',exitTo id k=some k'/\xY P W O (n8 id E) k'
theorem Im.skip {E:List (Nat×Kt)}{it:Item}(h:Im P W O E k)(hit:∀id,exitTo id (it::k)=exitTo id k):Im P W O E (it::k):=λj=>(h j).imp (λq=>q) λ⟨k',a,b⟩=>⟨k',(hit j).trans a,b⟩
theorem Im.block {E:List (Nat×Kt)}{K:Kt}{id:Nat}(h:Im P W O E k)(hK:xY P W O K k):Im P W O ((id,K)::E) (.inBlock id::k):=λj=>by
 have e:n8 j ((id,K)::E)=bif Nat.beq id j then K else n8 j E:=rfl;have e2:exitTo j (.inBlock id::k)=if id == j then some k else exitTo j k:=rfl;rw[e,e2];cases hb:Nat.beq id j with
 | true=>
   have:=beq_eq hb;subst this;exact .inr ⟨k,by simp,hK⟩
 | false=>
   have hne:(id == j)=false:=by
    cases hq:id == j with
    | false=>rfl
    | true=>have:id=j:=by simpa using hq
            subst this;rw[Nat.beq_refl]at hb;cases hb
   rw[hne];exact h j
theorem FH (hO:iQ P W O){K:Kt}(hK:xY P W O K k)(id:Nat)(ops:Array Oper)(draw:Bool):xY P W O (JM P pl ops draw K) (.code (.region id ops draw)::k):=λc tm H nx r h=>by
 unfold JM at h;rcases dy h with⟨hd,h1⟩ | ⟨hd,h1⟩
 . rcases dy h1 with⟨hm,h2⟩ | ⟨_,h2⟩
   . obtain⟨p,hp,h3⟩:=bx h2;subst hd;intro φ w lo tmps ds cs0 x htr;have hs:=step_region_draw (P:=P) (b:=cQ (bS c ds) #[] []) (a:=⟨tmps,ds⟩) (k:=k) (cs:=du c.rc cs0) (w:=w) (ops:=ops) (id:=id);rw[hm]at hs;have x':Fx P W lo cs0 c φ H nx tmps ds w.drew:=⟨x.hH.drew,x.bM,x.jg,x.iV,x.rJ,x.oA⟩;obtain⟨h1,h2⟩:=ec.start (P:=P) (φ:=φ) (H:=H) hp (w.tape w.drawn (.order (cQ (bS c ds) #[] []).fn id)) htr lo nx;exact cH.steps (.one hs) φ.le_refl (λ_ _ q=>⟨q,rfl⟩) (oR hO hK p tm H nx φ tmps _ _ _ _ _ h3 x' h1 h2)
   . exact(e8 h2).elim
 . subst hd;exact(jn hO hK _ c tm H nx r h1).step1 λds tmps cs w=> .one (step_region (b:=cQ (bS c ds) #[] []) (a:=⟨tmps,ds⟩))
theorem oS (hO:iQ P W O)(cd:Code):∀(k:List Item) (K:Kt) (E:List (Nat×Kt)),xY P W O K k->Im P W O E k->xY P W O (qh P pl cd k K E) (.code cd::k):=by
 induction cd with
 | skip=>exact λk K E hK hE c tm H nx r h=>(hK c tm H nx r h).step1 λds tmps cs w=> .one (step_skip (b:=cQ (bS c ds) #[] []) (a:=⟨tmps,ds⟩))
 | label l=>exact λk K E hK hE c tm H nx r h=>(hK c tm H nx r h).step1 λds tmps cs w=> .one (step_label (b:=cQ (bS c ds) #[] []) (a:=⟨tmps,ds⟩))
 | ret=>exact λk K E hK hE=>l4 hO (.inr ⟨k,rfl⟩)
 | region id ops draw=>exact λk K E hK hE=>FH hO hK id ops draw
 | seq a b iha ihb=>
   intro k K E hK hE c tm H nx r h;refine k8.step1 (λds tmps cs w=> .one (step_seq (b:=cQ (bS c ds) #[] []) (a:=⟨tmps,ds⟩))) (iha (.code b::k) _ E ?_ (hE.skip λ_=>rfl) c tm H nx r h);cases hq:Mk pl a b with
   | true=>exact k9 hO _
   | false=>exact ihb k K E hK hE
 | cond q a b iha ihb=>
   intro k K E hK hE c tm H nx r h φ w lo tmps ds cs0 x htr;have h:(B8 (br P tm q) (qh P pl a k K E c tm H nx) (qh P pl b k K E c tm H nx)).run O=some r:=h;unfold B8 at h;split at h
   . rename_i t hx;have he:Act.eval ⟨tmps,ds⟩ q= .bool t:=by
      rw[uz];exact((rH x.hH.gl htr (l:=[q]) CD) q (by simp) _ hx).aB rfl
     have hs:=step_cond (P:=P) (b:=cQ (bS c ds) #[] []) (a:=⟨tmps,ds⟩) (k:=k) (cs:=du c.rc cs0) (w:=w) (x:=a) (y:=b) he;rcases dy h with⟨rfl,h⟩ | ⟨rfl,h⟩
     . exact(iha k K E hK hE c tm H nx r h φ w lo tmps ds cs0 x htr).step1 (.one hs)
     . exact(ihb k K E hK hE c tm H nx r h φ w lo tmps ds cs0 x htr).step1 (.one hs)
   . exact(e8 h).elim
 | block id body ih=>
   intro k K E hK hE c tm H nx r h;refine k8.step1 (λds tmps cs w=> .one (step_block (b:=cQ (bS c ds) #[] []) (a:=⟨tmps,ds⟩))) (ih (.inBlock id::k) K ((id,K)::E) (λc tm H nx r h=> ?_) (hE.block hK) c tm H nx r h);exact(hK c tm H nx r h).step1 λds tmps cs w=> .one (step_inBlock (b:=cQ (bS c ds) #[] []) (a:=⟨tmps,ds⟩))
 | loop body ih=>
   intro k K E hK hE c tm H nx r h φ w lo tmps ds cs0 x htr;have h1:=k9 (pl:=pl) hO (.inLoop body::k) c tm H nx r h φ w lo tmps ds cs0 x htr;exact(h1.OV rfl (step_inLoop (b:=cQ (bS c ds) #[] []) (a:=⟨tmps,ds⟩))).step1 (.one (step_loop (b:=cQ (bS c ds) #[] []) (a:=⟨tmps,ds⟩)))
 | scope body ih=>
   intro k K E hK hE c tm H nx r h;refine k8.step1 (λds tmps cs w=> .one (step_scope (b:=cQ (bS c ds) #[] []) (a:=⟨tmps,ds⟩))) (ih (.inScope body::k) K E (λc tm H nx r h=> ?_) (hE.skip λ_=>rfl) c tm H nx r h);exact(hK c tm H nx r h).step1 λds tmps cs w=> .one (step_inScope (b:=cQ (bS c ds) #[] []) (a:=⟨tmps,ds⟩))
 | exit id=>
   intro k K E hK hE c tm H nx r h;have h:(n8 id E c tm H nx).run O=some r:=h;rcases hE id with q | ⟨k',hk',hK'⟩
   . rw[q]at h;exact(e8 h).elim
   . exact(hK' c tm H nx r h).step1 λds tmps cs w=> .one (step_exit (b:=cQ (bS c ds) #[] []) (a:=⟨tmps,ds⟩) hk')
 | _=>exact λk K E hK hE=>x_ _
theorem wI (hO:iQ P W O):∀todo:List Item,xY P W O (Oy P pl todo).1 todo/\Im P W O (Oy P pl todo).2 todo
 | []=>⟨l4 hO (.inl rfl),λid=> .inl rfl⟩
 | it::k=>by
   obtain⟨h1,h2⟩:=wI hO k;cases it with
   | code cd=>exact⟨oS hO cd k _ _ h1 h2,h2.skip λ_=>rfl⟩
   | inBlock id=>exact⟨λc tm H nx r h=>(h1 c tm H nx r h).step1 λds tmps cs w=> .one (step_inBlock (b:=cQ (bS c ds) #[] []) (a:=⟨tmps,ds⟩)),h2.block h1⟩
   | inScope b=>exact⟨λc tm H nx r h=>(h1 c tm H nx r h).step1 λds tmps cs w=> .one (step_inScope (b:=cQ (bS c ds) #[] []) (a:=⟨tmps,ds⟩)),h2.skip λ_=>rfl⟩
   | inLoop body=>exact⟨k9 hO _,h2.skip λ_=>rfl⟩
   | _=>exact⟨x_ _,λid=> .inl rfl⟩
theorem FI (hO:iQ P W O)(todo:List Item):xY P W O (JP P pl todo) todo:=by
 unfold JP;split
 . rename_i body k;intro c tm H nx r h;exact k8.step1 (λds tmps cs w=> .one (step_inLoop (b:=cQ (bS c ds) #[] []) (a:=⟨tmps,ds⟩))) (oS hO body _ _ _ (k9 hO _) ((wI hO k).2.skip λ_=>rfl) c tm H nx r h)
 . exact(wI hO todo).1
theorem J6 (hO:iQ P W O):∀q r,(a4 P pl q).run O=some r->CC P W q r
 | .at c tm todo H nx,r,h=>FI hO todo c tm H nx r h
 | .call f args kd rp H nx,r,h=>λφ w args' cs0 hH bM hl oA=>by
   obtain⟨fd,hf,h⟩:=bx (show(aa P.funcs[f]? (λfn=>aa fn.body (λcd=>OT P pl f kd rp fn cd args H nx) .bad) .bad).run O=some r from h);obtain⟨cd,hb,h⟩:=bx h;unfold OT at h;obtain⟨hn,h⟩:=jL h;have hn:=cg hn;obtain⟨φ1,us,H1,aJ,h,hl1,hz⟩:=kp fd.params _ _ _ φ H nx hH bM hl h;rw[cC]at h;have hlen:=hl.len;have hlen1:=hl1.len;have e:Frame.enter P f args'.toArray (kindOf kd)=cQ (bS ⟨f,fd.ntmps,kd,[],rp,false⟩ []) (args'.toArray++Array.replicate (fd.ntmps-args'.toArray.size) undef) [.code cd]:=by
    simp[Frame.enter,hf,hb,cQ,bS]
   rw[e];have hx:Fx P W nx cs0 ⟨f,fd.ntmps,kd,[],rp,false⟩ φ1 H1 aJ (args'.toArray++Array.replicate (fd.ntmps-args'.toArray.size) undef) [] w:=⟨hz.2.1,hz.2.2.1,hz.2.2.2.2,by
    show(args'.toArray++Array.replicate (fd.ntmps-args'.toArray.size) undef).size=fd.ntmps;simp only[Array.size_append,List.size_toArray,Array.size_replicate];omega,.nil,oA.mono hz.1⟩
   refine hz.fin (oS hO cd [] _ [] (l4 hO (.inl rfl)) (λid=> .inl rfl) _ _ _ _ r h φ1 w nx _ [] cs0 hx ?_);intro t v hv;rw[cS]at hv;split at hv
   . rename_i ht;rw[Nat.sub_zero]at hv;obtain⟨v',h1,h2⟩:=hl1.get hv;refine .inr ⟨v',?_,h2⟩;have:t<args'.toArray.size:=by simp;omega
     rw[Array.getElem?_append_left this];simpa using h1
   . rw[gO]at hv;cases hv
def uL (P:Program)(W:World)(X:Ext):Prop:=∀f args v,X f args=some v->(∀x∈args,flat x=true)/\flat v=true/\
 ∀w,Below W.heap.size W w->Calls P f args.toArray w λe w'=>e= .returned v/\Below w.heap.size w w'
theorem LR.aB {l l':List Value}(h:LR φ l l')(hf:∀x∈l,flat x=true):l'=l:=by
 refine List.ext_getElem? λi=> ?_
 by_cases hi:i<l.length
 . have h5:=List.getElem?_eq_getElem hi;have h6:=List.getElem?_eq_getElem (h.len ▸ hi:i<l'.length);rw[h5,h6,(h.at_ i _ _ h5 h6).aB (hf _ (List.getElem_mem hi))]
 . rw[List.getElem?_eq_none (by have:=h.len;omega),List.getElem?_eq_none (by omega)]
theorem J7 {X:Ext}(hX:uL P W X){f:FuncId}{args:List Value}{v:Value}(h:X f args=some v)(rp:Option Value)(H:T OB)(nx:Nat):CC P W (.call f args false rp H nx) ⟨.ret v,false,H,nx⟩:=λφ w args' cs0 hH bM hl _=>by
 obtain⟨h1,h2,h3⟩:=hX f args v h;have:=hl.aB h1;subst this;obtain⟨e,w',fr,⟨he,hb⟩,hc,hfn,hlv⟩:=h3 w hH.below cs0;subst he;obtain⟨a,b,hk,d⟩:=hlv;exact⟨φ,w',fr,hc,φ.le_refl,hH.grown hb,bM,λk _ q=>⟨q,rfl⟩,hk,hfn,v,.flat v h2,a,b,d⟩
theorem uM {X:Ext}{q:bI}{k:Option Rt}(h:lO X q k=some r):k=some r\/∃f args rp H nx v,q= .call f args false rp H nx/\X f args=some v/\r=⟨.ret v,false,H,nx⟩:=by
 cases q with
 | «at» c tm todo H nx=>exact .inl h
 | call f args kd rp H nx=>
   cases kd with
   | true=>exact .inl h
   | false=>
     have h:@Option.rec Value (λ_=>Option Rt) k (λv=>some ⟨.ret v,false,H,nx⟩) (X f args)=some r:=h;cases hx:X f args with
     | none=>rw[hx]at h;exact .inl h
     | some v=>rw[hx]at h;cases h;exact .inr ⟨f,args,rp,H,nx,v,rfl,hx,rfl⟩
theorem k_ (pl:ig)(X:Ext)(n:Nat)(q:bI):FD P pl X (n+1) q=lO X q ((a4 P pl q).run (FD P pl X n)):=rfl
theorem Io {X:Ext}(hX:uL P W X):∀n,iQ P W (FD P pl X n)
 | 0,q,r,h=>by cases h
 | n+1,q,r,h=>by
   rw[k_]at h;rcases uM h with h | ⟨f,args,rp,H,nx,v,rfl,hx,rfl⟩
   . exact J6 (Io hX n) q r h
   . exact J7 hX hx rp H nx
theorem Q.oT {O O':bI->Option Rt}(hO:∀q r,O q=some r->O' q=some r):∀(q:Q) (r:Rt),q.run O=some r->q.run O'=some r:=by
 intro q
 induction q with
 | ret a=>exact λr h=>h
 | bad=>exact λr h=>h
 | jump c=>exact λr h=>hO c r h
 | ask c k ih=>
   intro r h;obtain⟨a,h1,h2⟩:=kY h;show aa (O' c) (λa=>(k a).run O') none=some r;rw[hO c a h1];exact ih a r h2
theorem qB {X:Ext}{q:bI}{k k':Option Rt}(hk:∀r,k=some r->k'=some r)(h:lO X q k=some r):lO X q k'=some r:=by
 cases q with
 | «at» c tm todo H nx=>exact hk r h
 | call f args kd rp H nx=>
   cases kd with
   | true=>exact hk r h
   | false=>
     have h:@Option.rec Value (λ_=>Option Rt) k (λv=>some ⟨.ret v,false,H,nx⟩) (X f args)=some r:=h;show @Option.rec Value (λ_=>Option Rt) k' (λv=>some ⟨.ret v,false,H,nx⟩) (X f args)=some r;cases hx:X f args with
     | none=>rw[hx]at h;exact hk r h
     | some v=>rw[hx]at h;exact h
theorem uN {X:Ext}:∀(n:Nat) (q:bI) (r:Rt),FD P pl X n q=some r->FD P pl X (n+1) q=some r
 | 0,q,r,h=>by cases h
 | n+1,q,r,h=>by
   rw[k_]at h ⊢;exact qB (λr h=>Q.oT (uN n) _ r h) h
theorem nj {X:Ext}{n m:Nat}(hn:n<=m){q:bI}{r:Rt}(h:FD P pl X n q=some r):FD P pl X m q=some r:=by
 induction hn with
 | refl=>exact h
 | step _ ih=>exact uN _ q r ih
open Classical in
def F (P:Program)(pl:ig)(X:Ext)(q:bI):Option Rt:=if h:∃r n,FD P pl X n q=some r then some h.choose else none
theorem mG {X:Ext}{q:bI}:F P pl X q=some r↔∃n,FD P pl X n q=some r:=by
 unfold F;constructor
 . intro h;split at h
   . rename_i hx;cases h;exact hx.choose_spec
   . cases h
 . rintro⟨n,hn⟩;have hx:∃r n,FD P pl X n q=some r:=⟨r,n,hn⟩;rw[dif_pos hx];obtain⟨m,hm⟩:=hx.choose_spec;have h1:=nj (Nat.le_max_left n m) hn;have h2:=nj (Nat.le_max_right n m) hm;rw[h1]at h2;cases h2;rfl
theorem Q.FJ {X:Ext}:∀(q:Q) (r:Rt),q.run (F P pl X)=some r->∃n,q.run (FD P pl X n)=some r:=by
 intro q
 induction q with
 | ret a=>exact λr h=>⟨0,h⟩
 | bad=>exact λr h=>(e8 h).elim
 | jump c=>exact λr h=>mG.1 h
 | ask c k ih=>
   intro r h;obtain⟨a,h1,h2⟩:=kY h;obtain⟨n,hn⟩:=mG.1 h1;obtain⟨m,hm⟩:=ih a r h2;refine⟨max n m,?_⟩;show aa (FD P pl X (max n m) c) (λa=>(k a).run (FD P pl X (max n m))) none=some r;rw[nj (Nat.le_max_left n m) hn];exact Q.oT (λq r h=>nj (Nat.le_max_right n m) h) _ r hm
theorem p5 {X:Ext}(q:bI):F P pl X q=lO X q ((a4 P pl q).run (F P pl X)):=by
 have up:∀r,F P pl X q=some r->lO X q ((a4 P pl q).run (F P pl X))=some r:=λr h=>by
  obtain⟨n,hn⟩:=mG.1 h;cases n with
  | zero=>cases hn
  | succ n=>
    rw[k_]at hn;exact qB (λr h=>Q.oT (λq r h=>mG.2 ⟨n,h⟩) _ r h) hn
 have down:∀r,lO X q ((a4 P pl q).run (F P pl X))=some r->F P pl X q=some r:=λr h=>by
  rcases uM h with h | ⟨f,args,rp,H,nx,v,rfl,hx,rfl⟩
  . obtain⟨n,hn⟩:=Q.FJ _ r h;cases hF:lO X q ((a4 P pl q).run (FD P pl X n))with
    | none=>
      exfalso;rw[hn]at hF;cases q with
      | «at» c tm todo H nx=>cases hF
      | call f args kd rp H nx=>
        cases kd with
        | true=>cases hF
        | false=>
          have hF:@Option.rec Value (λ_=>Option Rt) (some r) (λv=>some ⟨.ret v,false,H,nx⟩) (X f args)=none:=hF;cases hx:X f args<;>rw[hx]at hF<;>cases hF
    | some r'=>
      have h1:F P pl X q=some r':=mG.2 ⟨n+1,by rw[k_];exact hF⟩;have h2:=up r' h1;have h3:lO X q ((a4 P pl q).run (F P pl X))=some r:=by assumption
      rw[h2]at h3;cases h3;exact h1
  . refine mG.2 ⟨1,?_⟩;rw[k_];show @Option.rec Value (λ_=>Option Rt) _ (λv=>some ⟨.ret v,false,H,nx⟩) (X f args)=_;rw[hx]
 cases h:F P pl X q with
 | some r=>exact(up r h).symm
 | none=>
   cases h2:lO X q ((a4 P pl q).run (F P pl X))with
   | none=>rfl
   | some r=>rw[down r h2]at h;cases h
theorem OW {X:Ext}{n:Nat}{q:bI}(h:FD P pl X n q=some r):F P pl X q=some r:=mG.2 ⟨n,h⟩
theorem oU {X:Ext}(hX:uL P W X){f:FuncId}{args args':List Value}{v:Value}{H':T OB}{nx':Nat}(hH:HR P W φ (hp H) W)(bM:φ.length=nx)(hl:LR φ args args')(hv:flat v=true)
 (h:F P pl X (.call f args false none H nx)=some ⟨.ret v,false,H',nx'⟩):Calls P f args'.toArray W λe w'=>e= .returned v/\Below W.heap.size W w':=by
 intro cs;obtain⟨n,hn⟩:=mG.1 h;obtain⟨φ1,w1,frl,s1,hle,hH1,hl1,hk1,hkk,hff,v',hv',hg⟩:=Io hX n _ _ hn φ W args' cs hH bM hl (λq=>by cases q);have:=hv'.aB hv;subst this;obtain⟨a,b,d⟩:=hg;exact⟨.returned v',w1,frl,⟨rfl,hH1.below⟩,s1,hff,a,b,hkk,d⟩
end
end
end Go.Ev
namespace Go.Ev
noncomputable section
set_option maxRecDepth 100000
set_option linter.unusedVariables false
set_option linter.unusedSimpArgs false
section
def aZ (l:List (Nat×Value)):T Value:=@List.rec (Nat×Value) (λ_=>T Value) .leaf (λp _ ih=>cJ (bits p.1) ih (some p.2) id) l
def J8 (cd:Code):List Item->List (List Item):=
 @Code.rec (λ_=>List Item->List (List Item)) (λ_=>[]) (λ_ _ _ _=>[]) (λ_ b iha ihb k=>iha (.code b::k)++((.code b::k)::ihb k)) (λ_ _ _ iha ihb k=>iha k++ihb k) (λid _ ih k=>ih (.inBlock id::k))
  (λb ih k=>(.inLoop b::k)::ih (.inLoop b::k)) (λ_ _ _ _ _ _ _=>[]) (λ_ _=>[]) (λb ih k=>ih (.inScope b::k)) (λ_ _=>[]) (λ_ _=>[]) (λ_=>[]) (λ_ _=>[]) cd
def Mv (key:Nat)(l:List (List Item)):List Item:=@List.rec (List Item) (λ_=>List Item) [] (λt _ ih=>bif Nat.beq (JO t) key then t else ih) l
def az (P:Program)(f:FuncId)(key:Nat):List Item:=match P.funcs[f]? with
 | some fn=>(match fn.body with
   | some cd=>Mv key (J8 cd [])
   | none=>[])
 | none=>[]
def dc (P:Program)(H:T OB)(nx:Nat)(t:TypeId)(a:Option Value)(v:Value)(k:T OB->Nat->Q):Q:=
 Fl a λb off=>ke (H.get (bits b)) λn _ _=>aa (a6 P t) (λs=>
  bif Nat.beq off 0&&(Nat.beq n s&&(Nat.beq v.cells.toList.length s&&v.cells.toList.all au))then cJ (bits b) H (some .dead) λH=>bN (Nat.succ nx) λn=>k H n else .bad) .bad
variable {P:Program}{pl:ig}{X:Ext}{H H0 H1:T OB}{nx nx0 aJ:Nat}{v u:Value}{R:Go.Ev.Out->T OB->Nat->Prop}
def Ag (nx0:Nat)(H0:T OB)(nx:Nat)(H:T OB):Prop:=nx0<=nx/\∀k,k<nx0->hp H k=hp H0 k
theorem Ag.refl (nx:Nat)(H:T OB):Ag nx H nx H:=⟨Nat.le_refl _,λ_ _=>rfl⟩
theorem Ag.trans (h:Ag nx0 H0 nx H)(h':Ag nx H aJ H1):Ag nx0 H0 aJ H1:=⟨Nat.le_trans h.1 h'.1,λk hk=>(h'.2 k (Nat.lt_of_lt_of_le hk h.1)).trans (h.2 k hk)⟩
theorem Ag.set (h:Ag nx0 H0 nx H){b:Nat}(hb:nx0<=b)(x:Option OB):Ag nx0 H0 nx (Ev.set H (bits b) x):=⟨h.1,λk hk=>by rw[bu,aX _ (by omega)];exact h.2 k hk⟩
theorem Ag.succ (h:Ag nx0 H0 nx H):Ag nx0 H0 (nx+1) H:=⟨Nat.le_succ_of_le h.1,h.2⟩
def aT (P:Program)(pl:ig)(X:Ext)(q:Q)(nx0:Nat)(H0:T OB)(R:Go.Ev.Out->T OB->Nat->Prop):Prop:=∃o H' nx',Ag nx0 H0 nx' H'/\R o H' nx'/\q.run (F P pl X)=some ⟨o,false,H',nx'⟩
abbrev J9 (P:Program)(pl:ig)(X:Ext)(q:Q)(nx0:Nat)(H0:T OB)(R:Value->T OB->Nat->Prop):Prop:=aT P pl X q nx0 H0 λo H nx=>∃v,o= .ret v/\R v H nx
abbrev Wq (P:Program)(pl:ig)(X:Ext)(q:Q)(nx0:Nat)(H0:T OB)(v:Value):Prop:=J9 P pl X q nx0 H0 λu _ _=>u=v
def Pure (P:Program)(pl:ig)(X:Ext)(f:FuncId)(args:List Value)(v:Value):Prop:=∀H nx,∃H' nx',Ag nx H nx' H'/\F P pl X (.call f args false none H nx)=some ⟨.ret v,false,H',nx'⟩
theorem Pure.of {f:FuncId}{args:List Value}(hx:X f args=none)(h:∀H nx,Wq P pl X (a4 P pl (.call f args false none H nx)) nx H v):Pure P pl X f args v:=λH nx=>by
 obtain⟨_,H',nx',h1,⟨_,rfl,rfl⟩,h2⟩:=h H nx;refine⟨H',nx',h1,?_⟩;rw[p5];show @Option.rec Value (λ_=>Option Rt) _ (λv=>some ⟨.ret v,false,H,nx⟩) (X f args)=_;rw[hx];exact h2
theorem Pure.ext {f:FuncId}{args:List Value}(hx:X f args=some v):Pure P pl X f args v:=λH nx=>⟨H,nx,.refl _ _,by
 rw[p5];show @Option.rec Value (λ_=>Option Rt) _ (λv=>some ⟨.ret v,false,H,nx⟩) (X f args)=_;rw[hx]⟩
theorem Wq.ret (h:Ag nx0 H0 nx H):Wq P pl X (.ret ⟨.ret v,false,H,nx⟩) nx0 H0 v:=⟨.ret v,H,nx,h,⟨v,rfl,rfl⟩,rfl⟩
theorem Wq.kr {o:Go.Ev.Out}(h:Ag nx0 H0 nx H)(hR:R o H nx):aT P pl X (.ret ⟨o,false,H,nx⟩) nx0 H0 R:=⟨o,H,nx,h,hR,rfl⟩
theorem Wq.jump {q:bI}(hq:∀k,lO X q k=k)(h:aT P pl X (a4 P pl q) nx0 H0 R):aT P pl X (.jump q) nx0 H0 R:=by
 obtain⟨v,H',nx',h1,hR,h2⟩:=h;refine⟨v,H',nx',h1,hR,?_⟩;show F P pl X q=_;rw[p5,hq];exact h2
theorem Wq.call {g:FuncId}{args:List Value}{k p:Value->T OB->Nat->Q}(hg:Pure P pl X g args u)(h:Ag nx0 H0 nx H)(hk:∀H' nx',Ag nx0 H0 nx' H'->aT P pl X (k u H' nx') nx0 H0 R):
 aT P pl X (ak (.call g args false none H nx) k p) nx0 H0 R:=by
 obtain⟨H1,aJ,h1,h2⟩:=hg H nx;obtain⟨v,H2,nx2,h3,hR,h4⟩:=hk H1 aJ (h.trans h1);refine⟨v,H2,nx2,h3,hR,?_⟩;show aa (F P pl X (.call g args false none H nx)) (λr=>(match r.o with | .ret v=>k v r.H r.nx | .eR v=>p v r.H r.nx:Q).run (F P pl X)) none=_;rw[h2];exact h4
theorem iu {e:TypeId}{l:List Value}{k:Value->T OB->Nat->Q}(hz:bE P e=some l):ao (aA P H nx e) k=k (iN nx) (Ev.set H (bits nx) (some (cu l e))) (nx+1):=by
 unfold aA;rw[hz,aN,dD];rfl
theorem Wq.var {e t:TypeId}{l:List Value}{s:Nat}{x:Value}{k:T OB->Nat->Q}(hz:bE P e=some l)(hs:a6 P t=some s)(hl:l.length=s)(hx:x.cells.toList.length=s)(hone:x.cells.toList.all au=true)
 (h:Ag nx0 H0 nx H) (hk:∀H' nx',Ag nx0 H0 nx' H'->aT P pl X (k H' nx') nx0 H0 R):aT P pl X (ao (aA P H nx e) λp H nx=>dc P H nx t (some p) x k) nx0 H0 R:=by
 rw[iu hz];have hg:(Ev.set H (bits nx) (some (cu l e))).get (bits nx)=some (cu l e):=by rw[get_at,if_pos rfl]
 have e1:dc P (Ev.set H (bits nx) (some (cu l e))) (nx+1) t (some (iN nx)) x k=k (Ev.set (Ev.set H (bits nx) (some (cu l e))) (bits nx) (some .dead)) (nx+1+1):=by
  show ke ((Ev.set H (bits nx) (some (cu l e))).get (bits nx)) (λn _ _=>aa (a6 P t) (λs=>bif Nat.beq 0 0&&(Nat.beq n s&&(Nat.beq x.cells.toList.length s&&x.cells.toList.all au))then
   cJ (bits nx) (Ev.set H (bits nx) (some (cu l e))) (some .dead) λH=>bN (Nat.succ (nx+1)) λn=>k H n else .bad) .bad)=_
  rw[hg];show aa (a6 P t) (λs=>bif Nat.beq 0 0&&(Nat.beq l.length s&&(Nat.beq x.cells.toList.length s&&x.cells.toList.all au))then
   cJ (bits nx) (Ev.set H (bits nx) (some (cu l e))) (some .dead) λH=>bN (Nat.succ (nx+1)) λn=>k H n else .bad) .bad=_
  rw[hs,aN,hl,hx,hone,aY,a5];have e2:Nat.beq s s=true:=Nat.beq_refl s;rw[e2];rfl
 rw[e1];exact hk _ _ ((((h.set h.1 _).succ).set h.1 _).succ)
theorem Wq.bN {k:Nat->Q}(hk:aT P pl X (k (nx+1)) nx0 H0 R):aT P pl X (Ev.bN (Nat.succ nx) k) nx0 H0 R:=by rw[a5];exact hk
@[simp] theorem Ip (n:Nat):ra (n:Int)=true:=rfl
@[simp] theorem yb (k:IntKind) (n:Int):pM (some false) (some 1) (.int k n)=some (.int k n):=rfl
@[simp] theorem yc (s:ByteArray):pM (some false) (some 1) (.string s)=some (.string s):=rfl
@[simp] theorem uO (s:Bool):pM (some false) (some 1) (.bool s)=some (.bool s):=rfl
@[simp] theorem yd (s:Nat) (es:List Value):pM (some false) (some 1) (bc s es)=some (bc s es):=rfl
@[simp] theorem CG (u:Value):pM (some false) (some 1) (ai u)=some (ai u):=rfl
@[simp] theorem uP:pM (some false) (some 1) (.pointer none)=some (.pointer none):=rfl
theorem dq {t:TypeId}{s:Nat}{es:List Value}{i:Nat}{u:Value}(hs:nS P t=some s)(hi:es[i]? = some u)(k:IntKind):ay P t (some (bc s es)) (some (.int k (i:Int)))=some (ai u):=by
 show gb (i:Int) (Fh P t (some (bc s es))) none=_;rw[ek];show Fg (nS P t) s es i=_;unfold Fg;rw[hs,aN,Nat.beq_refl,hi];rfl
theorem dT {t ty:TypeId}(s:Nat)(es:List Value)(h:eC P (some t)=true):aM P #[t] ty (some [bc s es])=some (.int .i64 (es.length:Int)):=by
 show(bif eC P (some t)then some (Value.int .i64 (.ofNat es.length))else none)=_;rw[h];rfl
theorem a9 {α β:Type}(s:Sem α)(f:α->Sem β):bD P (s >>= f)=(bD P s).bind λa=>bD P (f a):=by
 show bD P (s.bind f)=_
 induction s with
 | pure a=>rfl
 | program k ih=>exact ih P
 | mark m k ih=>exact ih
 | _=>rfl
theorem bT {t:TypeId}{d:TypeDesc}(hu:P.underlying t=some d):bD P (underlying t)=some d:=by
 unfold underlying;simp only[a9,program,bD,Option.bind_some,hu];rfl
theorem aF {t ty:TypeId}(s:ByteArray)(hu:P.underlying t=some .string):aM P #[t] ty (some [.string s])=some (.int .i64 (s.size:Int)):=by
 show hJ P .len #[t] ty (some [.string s])=_;show(bif true&&true then nQ (bD P (builtin .len #[t] ty #[] ⟨[.string s]⟩))else none)=_;have e:bD P (builtin .len #[t] ty #[] ⟨[.string s]⟩)=some (.value (.int .i64 (s.size:Int))):=by
  simp only[builtin,Builtin.len_];simp[a9,bT hu,goInt];rfl
 rw[e];show(nN (.int .i64 (s.size:Int)) λv=>bif flat v then some v else none)=_;rw[ik];rfl
@[simp] theorem mH (k:IntKind) (n:Int):au (.int k n)=true:=rfl
@[simp] theorem jo (s:ByteArray):au (.string s)=true:=rfl
@[simp] theorem la (b:Bool):au (.bool b)=true:=rfl
@[simp] theorem mI (s:Nat) (es:List Value):au (bc s es)=true:=rfl
@[simp] theorem oV (u:Value):au (ai u)=true:=rfl
@[simp] theorem lb:au (.pointer none)=true:=rfl
theorem dU {w:Value}(h:flat w=true):fV P (pure w)=some w:=by
 show(nN w λv=>bif flat v then some v else none)=_;rw[ik,h];rfl
theorem CH (op:BinOp)(t:TypeId)(k:IntKind)(a b:Int):vV P op t (.int k a) (.int k b)=fV P (binOp op t (.int k a) (.int k b)):=by cases op<;>rfl
theorem ku {op:BinOp}{t:TypeId}{q:Bool}{a b:Value}(ha:flat a=true)(hb:flat b=true)(hq:nU a=false)(hg:kb a=false):ah P H op t q (some a) (some b)=vV P op t a b:=by
 have e:ah P H op t q (some a) (some b)=iZ P H op t q a b:=by cases a<;>first | rfl | cases hg
 rw[e];show(bif flat a&&flat b then(bif q || !(nU a&&nU b)then vV P op t a b else none)else nT P H op t a b)=_;rw[ha,hb,hq];cases q<;>rfl
theorem dx (op:BinOp)(t:TypeId)(q:Bool)(k:IntKind)(a b:Int):ah P H op t q (some (.int k a)) (some (.int k b))=fV P (binOp op t (.int k a) (.int k b)):=by
 rw[ku rfl rfl rfl rfl,CH]
@[simp] theorem qC (t:TypeId) (q:Bool) (k:IntKind) (a b:Int):ah P H .add t q (some (.int k a)) (some (.int k b))=some (.int k (k.wrap (a+b))):=by
  rw[dx];have e:binOp .add t (.int k a) (.int k b)=pure (.int k (k.wrap (a+b))):=by simp[binOp,Op.intArith]
  rw[e];exact dU rfl
@[simp] theorem qD (t:TypeId) (q:Bool) (k:IntKind) (a b:Int):ah P H .sub t q (some (.int k a)) (some (.int k b))=some (.int k (k.wrap (a-b))):=by
  rw[dx];have e:binOp .sub t (.int k a) (.int k b)=pure (.int k (k.wrap (a-b))):=by simp[binOp,Op.intArith]
  rw[e];exact dU rfl
@[simp] theorem qE (t:TypeId) (q:Bool) (k:IntKind) (a b:Int):ah P H .mul t q (some (.int k a)) (some (.int k b))=some (.int k (k.wrap (a*b))):=by
  rw[dx];have e:binOp .mul t (.int k a) (.int k b)=pure (.int k (k.wrap (a*b))):=by simp[binOp,Op.intArith]
  rw[e];exact dU rfl
theorem By (t:TypeId)(q:Bool)(k:IntKind)(a b:Int)(hb:b≠0):ah P H .quo t q (some (.int k a)) (some (.int k b))=some (.int k (k.wrap (a.tdiv b))):=by
 rw[dx];have e:binOp .quo t (.int k a) (.int k b)=pure (.int k (k.wrap (a.tdiv b))):=by simp[binOp,Op.intDiv,hb]
 rw[e];exact dU rfl
@[simp] theorem qF (t:TypeId) (q:Bool) (k:IntKind) (a b:Int):ah P H .lss t q (some (.int k a)) (some (.int k b))=some (.bool (decide (a<b))):=by
  rw[dx];have e:binOp .lss t (.int k a) (.int k b)=pure (.bool (decide (a<b))):=by simp[binOp,Op.intCmp]
  rw[e];exact dU rfl
@[simp] theorem qG (t:TypeId) (q:Bool) (k:IntKind) (a b:Int):ah P H .leq t q (some (.int k a)) (some (.int k b))=some (.bool (decide (a<=b))):=by
  rw[dx];have e:binOp .leq t (.int k a) (.int k b)=pure (.bool (decide (a<=b))):=by simp[binOp,Op.intCmp]
  rw[e];exact dU rfl
@[simp] theorem qH (t:TypeId) (q:Bool) (k:IntKind) (a b:Int):ah P H .gtr t q (some (.int k a)) (some (.int k b))=some (.bool (decide (b<a))):=by
  rw[dx];have e:binOp .gtr t (.int k a) (.int k b)=pure (.bool (decide (b<a))):=by simp[binOp,Op.intCmp]
  rw[e];exact dU rfl
@[simp] theorem qI (t:TypeId) (q:Bool) (k:IntKind) (a b:Int):ah P H .geq t q (some (.int k a)) (some (.int k b))=some (.bool (decide (b<=a))):=by
  rw[dx];have e:binOp .geq t (.int k a) (.int k b)=pure (.bool (decide (b<=a))):=by simp[binOp,Op.intCmp]
  rw[e];exact dU rfl
@[simp] theorem qJ (t:TypeId) (q:Bool) (k:IntKind) (a b:Int):ah P H .eql t q (some (.int k a)) (some (.int k b))=some (.bool (decide (a=b))):=by
  rw[dx];have e:binOp .eql t (.int k a) (.int k b)=pure (.bool (decide (a=b))):=by simp[binOp,Op.intCmp];rfl
  rw[e];exact dU rfl
@[simp] theorem qK (t:TypeId) (q:Bool) (k:IntKind) (a b:Int):ah P H .neq t q (some (.int k a)) (some (.int k b))=some (.bool (!decide (a=b))):=by
  rw[dx];have e:binOp .neq t (.int k a) (.int k b)=pure (.bool (!decide (a=b))):=by simp[binOp,Op.intCmp];rfl
  rw[e];exact dU rfl
theorem Mw (a b:ByteArray):(a.toList == b.toList)=decide (a=b):=by
 rw[ByteArray.toList_eq,ByteArray.toList_eq];obtain⟨⟨x⟩⟩:=a;obtain⟨⟨y⟩⟩:=b;rw[Bool.eq_iff_iff];simp
theorem a_ {t:TypeId}{z l:List Value}{vs:List (Nat×Value)}(hz:bE P t=some z)(hb:P.built t vs=some ⟨l⟩):aC P t (some vs)=some (.agg ⟨l⟩):=by
 show aa (bE P t) (λ_=>aa (P.built t vs) (λcs=>nN (.agg cs) some) none) none=_;rw[hz,aN,hb,aN,ik]
@[simp] theorem oW (t:TypeId) (q:Bool) (a b:ByteArray):ah P H .eql t q (some (.string a)) (some (.string b))=some (.bool (decide (a=b))):=by
  rw[ku rfl rfl rfl rfl];have e:vV P .eql t (.string a) (.string b)=fV P (binOp .eql t (.string a) (.string b)):=rfl;rw[e,binOp_string_eql,Mw];exact dU rfl
@[simp] theorem oX (t:TypeId) (q:Bool) (a b:ByteArray):ah P H .neq t q (some (.string a)) (some (.string b))=some (.bool (!decide (a=b))):=by
  rw[ku rfl rfl rfl rfl];have e:vV P .neq t (.string a) (.string b)=fV P (binOp .neq t (.string a) (.string b)):=rfl;rw[e,binOp_string_neq,Mw];exact dU rfl
@[simp] theorem rL (b:Bool):jZ P .not (some (.bool b))=some (.bool (!b)):=by cases b<;>rfl
@[simp] theorem oY {β:Type} (b:Bool) (k:Bool->β) (bad:β):aI (.bool b) k bad=k b:=rfl
theorem a7 {n:Int}(h: -9223372036854775808<=n/\n<9223372036854775808):IntKind.i64.wrap n=n:=by
 unfold IntKind.wrap;have:IntKind.i64.bits=64:=rfl;have:IntKind.i64.signed=true:=rfl;simp only[*,Bool.true_and];split
 . rename_i h';simp only[decide_eq_true_eq]at h';omega
 . rename_i h';simp only[decide_eq_true_eq]at h';omega
theorem Wq.bK {b:Bool}{x y:Q}(h:b=true->aT P pl X x nx0 H0 R)(h':b=false->aT P pl X y nx0 H0 R):aT P pl X (Ev.bK b x y) nx0 H0 R:=by
 cases b
 . exact h' rfl
 . exact h rfl
theorem Wq.ite {p:Prop}[Decidable p]{x y:Q}(h:p->aT P pl X x nx0 H0 R)(h':¬p->aT P pl X y nx0 H0 R):aT P pl X (Ev.bK (decide p) x y) nx0 H0 R:=
 Wq.bK (λq=>h (of_decide_eq_true q)) (λq=>h' (of_decide_eq_false q))
theorem Wq.lf {k:Nat->Q}(h:Ag nx0 H0 nx H)(hk:Ag nx0 H0 (nx+1) H->aT P pl X (k (nx+1)) nx0 H0 R):aT P pl X (Ev.bN (Nat.succ nx) k) nx0 H0 R:=Wq.bN (hk h.succ)
theorem Wq.up {σ:Type}(n:Nat)(q:Nat->σ->T OB->Nat->Q)(r:Nat->σ->Value)(hend:∀s H1 aJ,Ag nx0 H0 aJ H1->Wq P pl X (q n s H1 aJ) nx0 H0 (r n s))
 (hstep:∀i s H1 aJ,i<n->(∀s H2 nx2,Ag nx0 H0 nx2 H2->Wq P pl X (q (i+1) s H2 nx2) nx0 H0 (r (i+1) s))->Ag nx0 H0 aJ H1->Wq P pl X (q i s H1 aJ) nx0 H0 (r i s)):
 ∀(i:Nat) (s:σ) (H1:T OB) (aJ:Nat),i<=n->Ag nx0 H0 aJ H1->Wq P pl X (q i s H1 aJ) nx0 H0 (r i s):=by
 have h:∀(d i:Nat),n-i=d->i<=n->∀(s:σ) (H1:T OB) (aJ:Nat),Ag nx0 H0 aJ H1->Wq P pl X (q i s H1 aJ) nx0 H0 (r i s):=by
  intro d
  induction d with
  | zero=>intro i hd hi s H1 aJ hA;obtain rfl:i=n:=by omega
          exact hend s H1 aJ hA
  | succ d ih=>intro i hd hi s H1 aJ hA;exact hstep i s H1 aJ (by omega) (λs H2 nx2 h=>ih (i+1) (by omega) (by omega) s H2 nx2 h) hA
 exact λi s H1 aJ hi hA=>h (n-i) i rfl hi s H1 aJ hA
def cm (H:T OB)(b:Nat)(l:List Value)(e:TypeId):Prop:=∃tr,H.get (bits b)=some (.cells l.length tr e)/\∀i,i<l.length->tr.get (bits i)=l[i]?
theorem cm.new (l:List Value)(e:TypeId):cm (Ev.set H (bits nx) (some (cu l e))) nx l e:=⟨_,by rw[get_at,if_pos rfl];rfl,λi hi=>qu l i hi⟩
theorem cm.other {b:Nat}{l:List Value}{e:TypeId}(h:cm H b l e){c:Nat}(hc:b≠c)(x:Option OB):cm (Ev.set H (bits c) x) b l e:=by
 obtain⟨tr,h1,h2⟩:=h;exact⟨tr,by rw[get_at,if_neg hc];exact h1,h2⟩
theorem cm.ag {b:Nat}{l:List Value}{e:TypeId}(h:cm H b l e)(hA:Ag nx H aJ H1)(hb:b<nx):cm H1 b l e:=by
 obtain⟨tr,h1,h2⟩:=h;exact⟨tr,(show hp H1 b=_ from(hA.2 b hb).trans h1),h2⟩
def gk (l u:List Value)(off:Nat):List Value:=l.take off++u++l.drop (off+u.length)
theorem gC {tr:T Value}{l:List Value}(h:∀i,i<l.length->tr.get (bits i)=l[i]?):∀(n off:Nat),off+n<=l.length->mZ tr n off=some ((l.drop off).take n)
 | 0,off,_=>by rw[uc];simp
 | n+1,off,hn=>by
   have hlt:off<l.length:=by omega
   rw[ud,h off hlt,List.getElem?_eq_getElem hlt,gC h n (off+1) (by omega),List.drop_eq_getElem_cons hlt,List.take_succ_cons]
theorem cq {b off s:Nat}{l:List Value}{e t:TypeId}(h:cm H b l e)(ha:cP P t=some true)(hs:a6 P t=some s)(hn:off+s<=l.length):
 ae P H t (some (.pointer (some ⟨b,off,none⟩)))=some (.agg ⟨(l.drop off).take s⟩):=by
 obtain⟨tr,h1,h2⟩:=h;show iM P H t b off=_;unfold iM;rw[h1];show iW P l.length tr t off=_;unfold iW;rw[ha,aN];show nP P l.length tr t off=_;unfold nP;rw[hs,aN,gC h2 s off hn,Nat.ble_eq_true_of_le hn];rfl
theorem ax {b off:Nat}{l:List Value}{e t:TypeId}{u:Value}(h:cm H b l e)(ha:cP P t=some false)(hu:l[off]? = some u):ae P H t (some (.pointer (some ⟨b,off,none⟩)))=some u:=by
 obtain⟨tr,h1,h2⟩:=h;have hlt:=(List.getElem?_eq_some_iff.1 hu).1;show iM P H t b off=_;unfold iM;rw[h1];show iW P l.length tr t off=_;unfold iW;rw[ha,aN];show nO l.length tr off=_;unfold nO;have e1:Nat.blt off l.length=true:=Nat.ble_eq_true_of_le hlt;rw[e1,h2 off hlt,hu];rfl
theorem Wq.alloc {e:TypeId}{l:List Value}{k:Value->T OB->Nat->Q}(hz:bE P e=some l)(h:Ag nx0 H0 nx H)
 (hk:∀H',cm H' nx l e->(∀b l e,b<nx->cm H b l e->cm H' b l e)->Ag nx0 H0 (nx+1) H'->aT P pl X (k (.pointer (some ⟨nx,0,none⟩)) H' (nx+1)) nx0 H0 R):aT P pl X (ao (aA P H nx e) k) nx0 H0 R:=by
 rw[iu hz];exact hk _ (cm.new l e) (λb l e hb h=>h.other (by omega) _) (h.succ.set h.1 _)
theorem Wq.box {e:TypeId}{u:Value}{k:Value->T OB->Nat->Q}(h:Ag nx0 H0 nx H)
 (hk:∀H',cm H' nx u.cells.toList e->(∀b l e,b<nx->cm H b l e->cm H' b l e)->Ag nx0 H0 (nx+1) H'->aT P pl X (k (.pointer (some ⟨nx,0,none⟩)) H' (nx+1)) nx0 H0 R):aT P pl X (ao (ja H nx e (some u)) k) nx0 H0 R:=by
 have e1:ao (ja H nx e (some u)) k=k (iN nx) (Ev.set H (bits nx) (some (cu u.cells.toList e))) (nx+1):=by
  show ao (tT H nx e u.cells.toList λH n=> .val (iN nx) H n) k=_;rw[dD];rfl
 rw[e1];exact hk _ (cm.new _ e) (λb l e hb h=>h.other (by omega) _) (h.succ.set h.1 _)
theorem Bz {l u:List Value}{off i:Nat}(hn:off+u.length<=l.length):(gk l u off)[i]? = if off<=i/\i<off+u.length then u[i-off]? else l[i]? := by
 unfold gk;have h1:(l.take off).length=off:=by simp;omega
 by_cases h:i<off
 . rw[if_neg (by omega),List.append_assoc,List.getElem?_append_left (by omega),List.getElem?_take,if_pos h]
 . by_cases h2:i<off+u.length
   . rw[if_pos (by omega),List.append_assoc,List.getElem?_append_right (by omega),List.getElem?_append_left (by omega),h1]
   . rw[if_neg (by omega),List.getElem?_append_right (by simp;omega),List.getElem?_drop];congr 1;simp;omega
theorem lg {l u:List Value}{off:Nat}(hn:off+u.length<=l.length):(gk l u off).length=l.length:=by
 unfold gk;simp;omega
theorem Wq.store {b off s:Nat}{l:List Value}{e t:TypeId}{u:Value}{k:Value->T OB->Nat->Q}(hb:cm H b l e)(hs:a6 P t=some s)(hn:off+s<=l.length)(hl:u.cells.toList.length=s)(hone:u.cells.toList.all au=true)
 (h:Ag nx0 H0 nx H) (hbn:nx0<=b) (hk:∀H',cm H' b (gk l u.cells.toList off) e->(∀c l e,c≠b->cm H c l e->cm H' c l e)->Ag nx0 H0 nx H'->aT P pl X (k undef H' nx) nx0 H0 R):
 aT P pl X (ao (aj P H nx t (some (.pointer (some ⟨b,off,none⟩))) (some u)) k) nx0 H0 R:=by
 obtain⟨tr,h1,h2⟩:=hb;have e1:aj P H nx t (some (.pointer (some ⟨b,off,none⟩))) (some u)= .val undef (Ev.set H (bits b) (some (.cells l.length (dB u.cells.toList off tr) e))) nx:=by
  show dh (H.get (bits b)) (λn tr e=>aa (a6 P t) (λs=>bif Nat.beq u.cells.toList.length s&&Nat.ble (off+s) n&&u.cells.toList.all au then
   dG u.cells.toList off tr λtr=>cJ (bits b) H (some (.cells n tr e)) λH=>dI.val undef H nx else .bad) .bad) .bad=_
  rw[h1];show aa (a6 P t) (λs=>bif Nat.beq u.cells.toList.length s&&Nat.ble (off+s) l.length&&u.cells.toList.all au then
   dG u.cells.toList off tr λtr=>cJ (bits b) H (some (.cells l.length tr e)) λH=>dI.val undef H nx else .bad) .bad=_
  rw[hs,aN,hl,Nat.beq_refl,Nat.ble_eq_true_of_le hn,hone,cC,aY];rfl
 rw[e1];have hn':off+u.cells.toList.length<=l.length:=by rw[hl];exact hn
 refine hk _ ⟨dB u.cells.toList off tr,?_,λi hi=> ?_⟩ (λc l e hc h=>h.other hc _) (h.set hbn _)
 . rw[get_at,if_pos rfl,lg hn']
 . rw[lg hn']at hi;rw[cS,Bz hn'];split
   . rfl
   . exact h2 i hi
end
end
end Go.Ev
namespace Go.Proofs.YthjhonhhbddhkaaGreatDoor
open Go.Ev Go.RowKit
noncomputable section
set_option maxRecDepth 100000
set_option linter.unusedVariables false
set_option linter.unusedSimpArgs false
set_option maxHeartbeats 8000000
noncomputable abbrev P:Program:=Tryz.prog
def pl:ig:=⟨[(157,[0]),(116,[0]),(142,[0]),(138,[0]),(82,[0]),(173,[0]),(79,[0]),(28,[1000]),(22,[1000]),(61,[1000]),(107,[1000]),(108,[1000]),(151,[1000]),(178,[1000]),(188,[1000]),(177,[1000]),(147,[1000]),(175,[1000]),(104,[1000]),(149,[1000]),(148,[1000]),(105,[1000]),(60,[1000]),(103,[1000]),(35,[1000]),(121,[1000]),(67,[1000]),(38,[1000]),(16,[1000]),(39,[1000]),(69,[1000]),(70,[1000]),(124,[1000]),(161,[1000]),(182,[1000]),(191,[1000]),(193,[1000]),(194,[1000]),(195,[1000]),(196,[1000]),(199,[1000]),(198,[1000]),(160,[1000]),(120,[1000]),(158,[1000]),(181,[1000]),(66,[1000]),(122,[1000]),(65,[1000]),(125,[1000])],[(76,[1]),(14,[0,1]),(29,[0]),(25,[0]),(30,[0]),(31,[0]),(115,[0]),(83,[0]),(43,[0]),(15,[0])],[(7,[2]),(15,[6]),(16,[10]),(25,[2,3]),(27,[5]),(28,[7]),(29,[2,3]),(30,[2,3]),(31,[2,3]),(33,[1]),(34,[4]),(36,[1,3]),(38,[4,5]),(39,[3,4,5,6,7,8]),(41,[7]),(42,[6]),(43,[6]),(44,[1,5]),(45,[1,5]),(47,[5,7]),(49,[1]),(50,[1,5,7,9,11,13]),(61,[3,4,5,6]),(64,[1]),(65,[4]),(66,[4]),(67,[4,5,7]),(69,[5,6]),(70,[4]),(71,[5]),(72,[2]),(73,[2]),(74,[2]),(75,[3,5,7]),(80,[1]),(81,[1]),(84,[1]),(86,[1]),(87,[1]),(90,[1]),(93,[1]),(94,[1]),(95,[1]),(96,[1,5]),(97,[1,5,7]),(98,[1,5]),(103,[4]),(105,[4]),(109,[5]),(119,[5]),(120,[3,4]),(121,[3,5,6]),(122,[4]),(124,[4]),(125,[4,5]),(126,[2]),(128,[6]),(131,[3,5]),(132,[3]),(133,[3]),(134,[3,7]),(135,[3,5]),(137,[1]),(140,[1]),(141,[1]),(143,[1]),(146,[5]),(148,[4]),(152,[3]),(158,[3,5]),(160,[3,6]),(161,[3,4]),(162,[5]),(163,[3,5]),(164,[8]),(165,[7]),(166,[3,5,6]),(168,[3]),(170,[3]),(171,[3,5,7]),(172,[1]),(175,[4]),(177,[3]),(178,[3,6]),(181,[5]),(182,[5]),(183,[1]),(185,[3]),(187,[4]),(188,[4]),(191,[3,4]),(193,[5]),(194,[5]),(195,[4,6]),(196,[3]),(198,[4]),(199,[4,8])],[((4,9),[0,3,4]),((6,20),[0,5,7,8,43]),((7,16),[1,2,5,6,7,42]),((7,23),[1,2,6,8]),((8,6),[0,1,26]),((8,18),[1,6,8,54]),((8,25),[1,6,8,11,12]),((8,32),[1,6,11,90]),((8,44),[6,11,13]),((35,7),[0,3]),((35,14),[0,3,4]),((23,9),[0,3,4]),((27,9),[3,6,7,8]),((21,7),[0,3]),((20,13),[0,4,5]),((20,20),[0,4,5]),((17,11),[0,1,2,7]),((17,22),[0,1,2,7,8,9]),((14,11),[0,1,5]),((14,18),[0,1,5,6,7,75]),((14,23),[0,1,5,6,7,8]),((14,30),[0,1,5,6,7,8,113]),((16,7),[0,5]),((16,19),[6,7]),((16,28),[6,7,8]),((34,12),[0,1,2,4]),((15,7),[0,2,3,4,8,9,10]),((22,13),[0,5,6]),((25,6),[2,3,49]),((25,11),[2,3,5]),((24,14),[0]),((49,12),[1,3,4]),((49,58),[3]),((49,27),[1,3,5]),((49,44),[3,4,75]),((49,35),[1,3,5,6]),((49,47),[3,4,7]),((49,53),[3,4,7,8]),((50,70),[3]),((50,17),[3,28,29,30]),((50,39),[3,56,57,58]),((50,59),[3,79,80,81]),((50,25),[3,28,29,30,40,41,42]),((50,45),[3,56,57,58,63,64,65]),((45,29),[1,3,4]),((45,47),[1,3,6]),((45,72),[]),((45,36),[1,3,4,89]),((45,57),[1,3,7]),((42,9),[4,9,10,11]),((41,9),[0,1,5,6]),((41,21),[0,1,5,6,7,8]),((41,29),[0,1,5,6,7,8,9]),((41,37),[0,1,5,6,7,10]),((41,47),[0,1,5,6,7,11]),((44,17),[1,3,4]),((44,45),[1,9,10]),((44,66),[1]),((44,29),[1,3,4,5,6,7,8]),((44,60),[1,9,11]),((43,9),[4,7,8,9]),((43,34),[4,7,8,9]),((43,22),[4,6,7,8,9]),((32,11),[0,1,5]),((31,6),[2,3,29]),((31,11),[2,3,5]),((31,21),[2,3,6]),((40,10),[5]),((36,10),[1,28]),((33,26),[1,66]),((33,46),[1,90]),((33,31),[1,3]),((33,48),[1,110]),((33,36),[1,3,86]),((33,53),[1,4]),((28,13),[0,5,6]),((47,19),[0,2,4]),((46,7),[0,4]),((46,12),[0,4,11]),((46,16),[0,4,36]),((108,11),[0,1,4,5]),((108,14),[0,1,4,5,6,26]),((107,5),[0,3,4]),((105,17),[0,2,5]),((105,22),[2]),((104,10),[2,3]),((103,24),[0,2,3]),((103,19),[0,2,3]),((103,31),[0,2,3]),((95,9),[1,3,4]),((94,9),[1,3,4]),((94,17),[1,3,5]),((93,9),[1,3,4]),((98,9),[3,7,8,9]),((97,9),[1,3,12,13,14]),((97,19),[3,24,25,26]),((96,9),[3,7,8,9]),((89,7),[0,3]),((87,7),[1,3]),((87,16),[1,36]),((87,62),[1,4,41,91]),((87,81),[1,4,5]),((87,86),[1,4,5,152]),((86,6),[1,16]),((75,24),[0,3]),((75,27),[0,48,49,50]),((75,39),[0,5,48,49,50,76,77,78]),((74,9),[1,2,5,6]),((73,9),[1,2,5,6]),((73,17),[1,2,5,7]),((72,9),[1,2,5,6]),((83,9),[0,1,5,6]),((83,16),[0,1,5,6]),((82,9),[0,3,4]),((81,67),[1,3,4,5]),((81,78),[1]),((80,40),[1]),((79,9),[0,3,4]),((79,18),[0,3,4,5,20]),((79,30),[0,3,4,5,43]),((78,10),[0,3]),((78,15),[0,3,4,5]),((78,28),[4,5]),((53,11),[0,1,5]),((53,16),[0,1,5,54]),((70,7),[0,2,3]),((69,5),[0,3,4]),((67,19),[0,2,6]),((67,26),[2]),((66,12),[2,3]),((65,20),[0,2,3]),((65,15),[0,2,3]),((65,25),[0,2,3]),((58,6),[0,3]),((54,7),[1,7,8,9]),((52,54),[2,5,6]),((52,38),[0,2,4,5,6,102]),((52,46),[0,2,5,6,121]),((52,49),[0,2,5,6]),((52,13),[0,2,5,6,23,24]),((52,18),[0,2,5,6,8,23,24,59]),((51,7),[0,3,4]),((51,18),[0,3,4,5,6]),((51,42),[3]),((51,24),[0,3,4]),((51,30),[0,3,4,5,69]),((51,36),[0,3,4,85]),((92,7),[0,3]),((91,7),[0,3]),((91,12),[0,3,11]),((91,16),[0,3,32]),((153,7),[1,7,8,9]),((152,8),[3,13]),((151,8),[0,2,3,13]),((151,15),[0,2,4]),((148,20),[0,2,3]),((149,7),[0,2,3]),((147,11),[0,2,3]),((147,14),[0,2,3]),((146,10),[0,4,5]),((143,7),[1,3]),((115,7),[0,1,5]),((141,42),[2,3]),((141,20),[1,2,3,10,17]),((141,28),[1,2,3,10,25]),((141,36),[1,2,3,10,31]),((133,6),[0,3,12]),((135,11),[0,18,19,20]),((134,10),[0,3]),((134,13),[0,3,21,22,23]),((134,20),[0,3,5,21,22,23]),((134,28),[0,3]),((134,35),[0,59,60,61]),((131,36),[0,3,7,51]),((131,40),[0,3]),((131,83),[0,163,164,165]),((130,14),[0]),((130,20),[0,3]),((130,26),[0,3]),((130,38),[0,3]),((130,44),[0,3]),((130,28),[0,3,72]),((128,8),[3,4,5,6,72]),((126,9),[1,2,5,6]),((137,6),[1,11]),((139,9),[0,1,5,6]),((118,9),[0,3,4]),((118,18),[0,3,4,5,20]),((118,30),[0,3,4,5,43]),((138,9),[0,3,4]),((124,7),[0,2,3]),((121,10),[0,2,3,4,19]),((122,7),[0,2,3]),((119,8),[0,5,17]),((114,6),[0,17]),((114,11),[0,3]),((114,16),[0,3,34]),((113,10),[20]),((112,6),[0,17]),((112,11),[0,3]),((111,6),[0,15]),((111,13),[0,4,5]),((110,9),[0,4,5]),((110,14),[0,4,5,27]),((117,9),[0,3,4]),((117,16),[0,3,4,5]),((102,7),[0,1,5]),((101,9),[0,4,5]),((101,10),[0,4,5]),((101,34),[0,4,5,6,49]),((100,7),[0,4,5]),((179,14),[0,6]),((178,47),[0,2,4,73,74]),((178,55),[0,2,4,6,7]),((178,60),[0,2,4,73,74]),((177,53),[0,2,4]),((177,56),[0,2,4]),((176,14),[0,6]),((175,44),[0,2,3]),((175,29),[0,2,3,7]),((175,47),[0,2,3,10,11]),((175,40),[0,2,3,7,8]),((171,18),[0,3,9,26]),((171,20),[0,3]),((171,40),[0,3]),((171,23),[0,3,52,53,54]),((171,43),[0,3,85,86,87]),((171,30),[0,3,5,52,53,54]),((171,50),[0,3,7,85,86,87]),((171,58),[0,3]),((165,5),[0,2,8,9,10]),((165,12),[0,2,7,8,9,10]),((170,46),[0,3,77]),((170,56),[0,3]),((169,6),[0,2,10]),((167,7),[0,5,6]),((166,13),[0,3,19,20,21]),((166,18),[0,3,5,19,20,21]),((166,38),[0]),((162,5),[0,6,7,8]),((162,12),[0,5,6,7,8]),((163,6),[0,3]),((163,10),[0,3]),((163,23),[0,92,93,94]),((173,9),[0,3,4]),((173,16),[0,3,4,5,39]),((172,20),[1,5]),((160,8),[0,2,3,33]),((160,42),[0,2,83]),((160,51),[0,2,5]),((160,56),[0,2,5]),((158,13),[0,2,4]),((155,6),[0,20]),((155,36),[0,58]),((145,14),[0,8,9]),((145,28),[0,34]),((188,7),[0,2,3]),((188,14),[0,2,3,4]),((188,25),[0,2,3,6]),((188,28),[0,2,3,6]),((187,8),[0,4,13]),((185,6),[0,3,17]),((184,4),[0,1,2]),((184,7),[0,1,2,6]),((184,14),[0,1,2,6]),((183,20),[5]),((182,7),[0,2,3]),((181,36),[0,2,3]),((181,17),[0,2,3,4]),((181,37),[0,2,3]),((174,10),[0,9]),((192,7),[0,1,5]),((193,7),[0,2,3]),((194,7),[0,2,3]),((195,17),[0,2,5]),((196,8),[0,2,3,32]),((196,34),[0,2,73]),((196,44),[0,2,4]),((199,10),[0,2,6,7]),((199,11),[0,2,6,7]),((198,7),[0,2,3]),((198,14),[0,2,3,4]),((198,24),[0,2,3,6])],true⟩
end
end Go.Proofs.YthjhonhhbddhkaaGreatDoor
namespace Go.Ev
noncomputable section
set_option maxRecDepth 100000
set_option linter.unusedVariables false
set_option linter.unusedSimpArgs false
section
variable {P:Program}{pl:ig}{X:Ext}{H H0 H1:T OB}{nx nx0 aJ:Nat}{v u:Value}{R:Go.Ev.Out->T OB->Nat->Prop}
theorem Wq.new {e:TypeId}{l:List Value}{q:T OB->Nat->Q}(h:Ag nx0 H0 nx H)(hk:∀H',cm H' nx l e->(∀b l e,b<nx->cm H b l e->cm H' b l e)->Ag nx0 H0 (nx+1) H'->aT P pl X (q H' (nx+1)) nx0 H0 R):
 aT P pl X (q (Ev.set H (bits nx) (some (cu l e))) (nx+1)) nx0 H0 R:=hk _ (cm.new l e) (λb l e hb h=>h.other (by omega) _) (h.succ.set h.1 _)
theorem Wq.row {t e:TypeId}{s n:Nat}{vs:List (Nat×Value)}{z l:List Value}{k:Value->T OB->Nat->Q}(hu:P.underlying t=some (.slice e))(hs:a6 P e=some s)(hz:bE P e=some z)
 (hg:(Nat.ble (n*s) 16777216&&Nat.blt 0 (n*s)&&Nat.blt 0 z.length)=true) (hf:Instr.fill (λi=>some (i*s,s)) (bz z (n*s)) vs=some ⟨l⟩) (h:Ag nx0 H0 nx H)
 (hk:∀H',cm H' nx l e->(∀b l e,b<nx->cm H b l e->cm H' b l e)->Ag nx0 H0 (nx+1) H'->aT P pl X (k (.slice (some ⟨nx,0,none⟩) n n) H' (nx+1)) nx0 H0 R):
 aT P pl X (ao (aq P H nx t n (some vs)) k) nx0 H0 R:=by
 have e1:ao (aq P H nx t n (some vs)) k=k (.slice (some ⟨nx,0,none⟩) n n) (Ev.set H (bits nx) (some (cu l e))) (nx+1):=by
  unfold aq cV;rw[aN,hu];simp only[hs,aN,hz,hg,cond_true,hf];rw[dD,a5];rfl
 rw[e1];exact Wq.new h hk
theorem oZ {b s n c:Nat}{l:List Value}{e:TypeId}(h:cm H b l e)(hn:l.length=n*s):kc H s (.slice (some ⟨b,0,none⟩) n c)=some (n,l):=by
 obtain⟨tr,h1,h2⟩:=h;show aa (cellsOf H s (some ⟨b,0,none⟩) n) (λl=>some (n,l)) none=_;unfold cellsOf;simp only;rw[h1];show aa (bif Nat.ble (0+n*s) l.length then mZ tr (n*s) 0 else none) (λl=>some (n,l)) none=_;rw[Nat.zero_add,hn,Nat.ble_eq_true_of_le (Nat.le_refl _),cond_true,<- hn,gC h2 _ _ (by omega)];simp
theorem CI (s:Nat)(es:List Value):kc H s (bc s es)=some (es.length,es.flatMap λu=>u.cells.toList):=by
 show(bif Nat.beq s s then some (es.length,es.flatMap λu=>u.cells.toList)else none)=_;rw[Nat.beq_refl];rfl
def isStr (v:Value):Bool:=match v with
 | .string _=>true
 | _=>false
theorem jM {t:TypeId}{x:Value}{base:Option Addr}{sl sc:Nat}(hx:isStr x=false):bt P H nx [t,t] (some [.slice base sl sc,x])=cV P t (λe s=>aa (kc H s x) (λp=>bif bB P e s (sl+p.1)then pR P H nx e s base sl sc p.1 p.2 else .bad) .bad) .bad:=by
 have e1:bt P H nx [t,t] (some [.slice base sl sc,x])=kI P H nx [t,t] (some [.slice base sl sc,x]):=by cases x<;>first | rfl | cases hx
 rw[e1];show(bif !Nat.beq t t then dI.bad else _)=_;rw[Nat.beq_refl];rfl
theorem Wq.FK {t e:TypeId}{s m:Nat}{x:Value}{xs:List Value}{k:Value->T OB->Nat->Q}(hu:P.underlying t=some (.slice e))(hs:a6 P e=some s)(hx:isStr x=false)(hxs:kc H s x=some (m,xs))(hsm:bB P e s m=true)(h:Ag nx0 H0 nx H)
 (h0:m=0->aT P pl X (k (.slice none 0 0) H nx) nx0 H0 R)
 (hk:∀H',0<m->cm H' nx xs e->(∀b l e,b<nx->cm H b l e->cm H' b l e)->Ag nx0 H0 (nx+1) H'->aT P pl X (k (.slice (some ⟨nx,0,none⟩) m dP) H' (nx+1)) nx0 H0 R):
 aT P pl X (ao (bt P H nx [t,t] (some [.slice none 0 0,x])) k) nx0 H0 R:=by
 rw[jM hx];unfold cV;rw[hu];simp only[hs,aN,hxs,Nat.zero_add,hsm,cond_true];show aT P pl X (ao (bif Nat.beq 0 0&&Nat.beq 0 0 then(bif Nat.beq m 0 then .val (.slice none 0 0) H nx else gd H nx e m xs)else .bad) k) nx0 H0 R;cases m with
 | zero=>exact h0 rfl
 | succ m=>
   show aT P pl X (ao (gd H nx e (m+1) xs) k) nx0 H0 R;rw[gi];exact Wq.new (q:=λH n=>k (.slice (some ⟨nx,0,none⟩) (m+1) dP) H n) h λH' a b c=>hk H' (Nat.succ_pos _) a b c
theorem Wq.app {t e e':TypeId}{b s n m:Nat}{x:Value}{l xs:List Value}{k:Value->T OB->Nat->Q}(hu:P.underlying t=some (.slice e))(hs:a6 P e=some s)(hb:cm H b l e')(hs':a6 P e'=some s)(hl:l.length=n*s)(hx:isStr x=false)(hxs:kc H s x=some (m,xs))
 (hone:xs.all au=true) (hsm:bB P e s (n+m)=true) (h:Ag nx0 H0 nx H) (hbn:nx0<=b) (hbx:b<nx)
 (hk:∀H',cm H' nx (l++xs) e->(∀c l e,c≠b->c<nx->cm H c l e->cm H' c l e)->Ag nx0 H0 (nx+1) H'->aT P pl X (k (.slice (some ⟨nx,0,none⟩) (n+m) dP) H' (nx+1)) nx0 H0 R):
 aT P pl X (ao (bt P H nx [t,t] (some [.slice (some ⟨b,0,none⟩) n dP,x])) k) nx0 H0 R:=by
 rw[jM hx];unfold cV;rw[hu];simp only[hs,aN,hxs,hsm,cond_true];obtain⟨tr,h1,h2⟩:=hb;have e1:pR P H nx e s (some ⟨b,0,none⟩) n dP m xs=gd (Ev.set H (bits b) (some .dead)) nx e (n+m) (l++xs):=by
  show tV P H nx e s b 0 n dP m xs=_;unfold tV;rw[h1];have eu:Nat.beq dP dP=true:=Nat.beq_refl _;simp only[dh,eu,cond_true];unfold L3 pP;rw[h1];show(bif Nat.beq 0 0&&Nat.ble (n*s) l.length&&aa (a6 P e') (λz=>Nat.beq z s) false&&xs.all au then _ else _)=_;rw[hs',aN,Nat.beq_refl,hl,Nat.ble_eq_true_of_le (Nat.le_refl _),hone];have:mZ tr (n*s) 0=some l:=by rw[<- hl,gC h2 _ _ (by omega)];simp
  rw[this,Nat.beq_refl];show cJ (bits b) H (some .dead) (λH=>gd H nx e (n+m) (l++xs))=_;rw[aY]
 rw[e1,gi];exact Wq.new (q:=λH n'=>k (.slice (some ⟨nx,0,none⟩) (n+m) dP) H n') (h.set hbn _) λH' ha hb hc=>hk H' ha (λc l e hcb hcn hi=>hb c l e hcn (hi.other hcb _)) hc
theorem jq:∀(l:List Value),chunk false 1 l.length l=some l
 | []=>rfl
 | v::l=>by
   show(bif Nat.ble 1 (l.length+1)then aa (chunk false 1 l.length l) (λr=>bK false _ (aa (some v) (λv=>some (v::r)) none)) none else none)=_;rw[Nat.ble_eq_true_of_le (by omega),jq l];rfl
theorem o0 (s:Nat):∀(es:List (List Value)),(∀x,x∈es->x.length=s)->chunk true s es.length es.flatten=some (es.map λx=> .agg ⟨x⟩)
 | [],_=>rfl
 | x::es,h=>by
   have hx:=h x List.mem_cons_self;show(bif Nat.ble s (x++es.flatten).length then aa (chunk true s es.length ((x++es.flatten).drop s)) (λr=>some (.agg ⟨(x++es.flatten).take s⟩::r)) none else none)=_;rw[Nat.ble_eq_true_of_le (by simp;omega),<- hx,List.drop_left,List.take_left,hx,o0 s es λy hy=>h y (List.mem_cons_of_mem _ hy)];rfl
theorem Wq.OC {t e e':TypeId}{b s n c:Nat}{a:Bool}{l es:List Value}{k:Value->T OB->Nat->Q}(hu:P.underlying t=some (.slice e))(hs:a6 P e=some s)(ha:cP P e=some a)(hpos:(Nat.blt 0 s&&(a||Nat.beq s 1))=true)(hb:cm H b l e')(hl:l.length=n*s)
 (hc:(Nat.beq c dP||Nat.ble n c)=true) (hch:chunk a s n l=some es) (hone:(es.all λx=>Ev.bK a true (au x))=true) (h:Ag nx0 H0 nx H) (hbn:nx0<=b)
 (hk:∀H',(∀c l e,c≠b->cm H c l e->cm H' c l e)->Ag nx0 H0 (nx+1) H'->aT P pl X (k (bc s es) H' (nx+1)) nx0 H0 R):
 aT P pl X (fH P t (.slice (some ⟨b,0,none⟩) n c) H nx k) nx0 H0 R:=by
 obtain⟨tr,h1,h2⟩:=hb;have e2:Bb P H e b 0 n=some (bc s es):=by
  unfold Bb;rw[h1];show aa (a6 P e) (λs=>aa (cP P e) (λa=>bif Nat.ble (0+n*s) l.length&&Nat.blt 0 s&&(a||Nat.beq s 1)then _ else none) none) none=_;rw[hs,aN,ha,aN,Nat.zero_add,hl,Nat.ble_eq_true_of_le (Nat.le_refl _),Bool.true_and,hpos,cond_true];have:mZ tr (n*s) 0=some l:=by rw[<- hl,gC h2 _ _ (by omega)];simp
  rw[this,aN,hch,aN,hone];rfl
 have e1:fH P t (.slice (some ⟨b,0,none⟩) n c) H nx k=k (bc s es) (Ev.set H (bits b) (some (ON (H.get (bits b))))) (nx+1):=by
  unfold fH;rw[hu];simp only;unfold gz;rw[hu];simp only;rw[hc,cond_true,e2,aN,aY,a5]
 rw[e1];exact hk _ (λc l e hc hi=>hi.other hc _) ((h.set hbn _).succ)
theorem o4 {s:TypeId}{f d b o:Nat}(h:iX P s f=some d):ab P s (some (.pointer (some ⟨b,o,none⟩))) f=some (.pointer (some ⟨b,o+d,none⟩)):=by
 show OJ (iX P s f) (hU P s f) (.pointer (some ⟨b,o,none⟩))=_;rw[h];show bN (Nat.add o d) (λo=>some (Value.pointer (some ⟨b,o,none⟩)))=_;rw[a5];rfl
theorem iv {t:TypeId}{s b off len c i:Nat}(hs:nS P t=some s)(hi:i<len)(k:IntKind):ay P t (some (.slice (some ⟨b,off,none⟩) len c)) (some (.int k (i:Int)))=some (.pointer (some ⟨b,off+i*s,none⟩)):=by
 show gb (i:Int) (Fh P t (some (.slice (some ⟨b,off,none⟩) len c))) none=_;rw[ek];show aa (nS P t) (λs=>bif Nat.blt i len then bN (Nat.add off (Nat.mul i s)) (λo=>some (Value.pointer (some ⟨b,o,none⟩)))else none) none=_;rw[hs,aN,show Nat.blt i len=true from Nat.ble_eq_true_of_le hi,cond_true,a5];rfl
theorem dM {t ty:TypeId}{a:Addr}{n c:Nat}(h:eC P (some t)=true):aM P #[t] ty (some [.slice (some a) n c])=some (.int .i64 (n:Int)):=by
 show(bif eC P (some t)then some (Value.int .i64 (.ofNat n))else none)=_;rw[h];rfl
@[simp] theorem CJ (a:Option Addr) (n c:Nat):pM (some false) (some 1) (.slice a n c)=some (.slice a n c):=rfl
@[simp] theorem o5 (a:Option Addr) (n c:Nat):au (.slice a n c)=true:=rfl
@[simp] theorem uQ (u:Value):aP (some (ai u))=some (ai u):=rfl
@[simp] theorem qL (a:Addr):aP (some (.pointer (some a)))=some (.pointer (some a)):=rfl
theorem Wq.Mx {f:FuncId}{args:List Value}{R1:Value->T OB->Nat->Prop}{k p:Value->T OB->Nat->Q}(hx:X f args=none)(h:J9 P pl X (a4 P pl (.call f args false none H nx)) nx0 H0 R1)
 (hk:∀u H' nx',Ag nx0 H0 nx' H'->R1 u H' nx'->aT P pl X (k u H' nx') nx0 H0 R):aT P pl X (ak (.call f args false none H nx) k p) nx0 H0 R:=by
 obtain⟨_,H1,aJ,h1,⟨u,rfl,hR1⟩,h2⟩:=h;obtain⟨v,H2,nx2,h3,hR,h4⟩:=hk u H1 aJ h1 hR1;refine⟨v,H2,nx2,h3,hR,?_⟩;show aa (F P pl X (.call f args false none H nx)) (λr=>(match r.o with | .ret v=>k v r.H r.nx | .eR v=>p v r.H r.nx:Q).run (F P pl X)) none=_;have e1:F P pl X (.call f args false none H nx)=some ⟨.ret u,false,H1,aJ⟩:=by
  rw[p5];show @Option.rec Value (λ_=>Option Rt) _ (λv=>some ⟨.ret v,false,H,nx⟩) (X f args)=_;rw[hx];exact h2
 rw[e1];exact h4
theorem Wq.fi {f:FuncId}{args:List Value}{R1:Go.Ev.Out->T OB->Nat->Prop}{k p:Value->T OB->Nat->Q}(hx:X f args=none)(h:aT P pl X (a4 P pl (.call f args false none H nx)) nx0 H0 R1)
 (hk:∀u H' nx',Ag nx0 H0 nx' H'->R1 (.ret u) H' nx'->aT P pl X (k u H' nx') nx0 H0 R) (hp:∀u H' nx',Ag nx0 H0 nx' H'->R1 (.eR u) H' nx'->aT P pl X (p u H' nx') nx0 H0 R):aT P pl X (ak (.call f args false none H nx) k p) nx0 H0 R:=by
 obtain⟨o,H1,aJ,h1,hR1,h2⟩:=h;have e1:F P pl X (.call f args false none H nx)=some ⟨o,false,H1,aJ⟩:=by
  rw[p5];show @Option.rec Value (λ_=>Option Rt) _ (λv=>some ⟨.ret v,false,H,nx⟩) (X f args)=_;rw[hx];exact h2
 cases o with
 | ret u=>
   obtain⟨v,H2,nx2,h3,hR,h4⟩:=hk u H1 aJ h1 hR1;refine⟨v,H2,nx2,h3,hR,?_⟩;show aa (F P pl X (.call f args false none H nx)) (λr=>(match r.o with | .ret v=>k v r.H r.nx | .eR v=>p v r.H r.nx:Q).run (F P pl X)) none=_;rw[e1];exact h4
 | eR u=>
   obtain⟨v,H2,nx2,h3,hR,h4⟩:=hp u H1 aJ h1 hR1;refine⟨v,H2,nx2,h3,hR,?_⟩;show aa (F P pl X (.call f args false none H nx)) (λr=>(match r.o with | .ret v=>k v r.H r.nx | .eR v=>p v r.H r.nx:Q).run (F P pl X)) none=_;rw[e1];exact h4
theorem Wq.CK {f:FuncId}{args:List Value}{k p:Value->T OB->Nat->Q}(hx:X f args=none)(h:Wq P pl X (a4 P pl (.call f args false none H nx)) nx0 H0 u)
 (hk:∀H' nx',Ag nx0 H0 nx' H'->aT P pl X (k u H' nx') nx0 H0 R):aT P pl X (ak (.call f args false none H nx) k p) nx0 H0 R:=
 Wq.Mx hx h λu' H' nx' hA hu=>by subst hu;exact hk H' nx' hA
theorem J_ {t e:TypeId}{x:Value}{k:Value->T OB->Nat->Q}(hu:P.underlying t=some (.slice e)):gz P t x H nx k=fH P t x H nx k:=by
 unfold fH;rw[hu]
theorem FL (ts:Array TypeId)(t:TypeId)(a b:Int):hJ P .max ts t (some [.int .i64 a,.int .i64 b])=some (.int .i64 (if b>a then b else a)):=by
 show(bif true&&(true&&true)then nQ (bD P (builtin .max ts t #[] ⟨[.int .i64 a,.int .i64 b]⟩))else none)=_;have e:bD P (builtin .max ts t #[] ⟨[.int .i64 a,.int .i64 b]⟩)=some (.value (.int .i64 (if b>a then b else a))):=by
  simp only[builtin,Builtin.max_];simp[a9,Builtin.max2];rfl
 rw[e];show(nN (.int .i64 (if b>a then b else a)) λv=>bif flat v then some v else none)=_;rw[ik];rfl
theorem Wq.Ka {e t:TypeId}{l:List Value}{s:Nat}{x:Value}{k:T OB->Nat->Q}(hz:bE P e=some l)(hs:a6 P t=some s)(hl:l.length=s)(hx:x.cells.toList.length=s)(hone:x.cells.toList.all au=true)
 (h:Ag nx0 H0 nx H) (hk:∀H' nx',Ag nx0 H0 nx' H'->nx<=nx'->(∀b l e,b<nx->cm H b l e->cm H' b l e)->aT P pl X (k H' nx') nx0 H0 R):aT P pl X (ao (aA P H nx e) λp H nx=>dc P H nx t (some p) x k) nx0 H0 R:=by
 rw[iu hz];have hg:(Ev.set H (bits nx) (some (cu l e))).get (bits nx)=some (cu l e):=by rw[get_at,if_pos rfl]
 have e1:dc P (Ev.set H (bits nx) (some (cu l e))) (nx+1) t (some (iN nx)) x k=k (Ev.set (Ev.set H (bits nx) (some (cu l e))) (bits nx) (some .dead)) (nx+1+1):=by
  show ke ((Ev.set H (bits nx) (some (cu l e))).get (bits nx)) (λn _ _=>aa (a6 P t) (λs=>bif Nat.beq 0 0&&(Nat.beq n s&&(Nat.beq x.cells.toList.length s&&x.cells.toList.all au))then
   cJ (bits nx) (Ev.set H (bits nx) (some (cu l e))) (some .dead) λH=>Ev.bN (Nat.succ (nx+1)) λn=>k H n else .bad) .bad)=_
  rw[hg];show aa (a6 P t) (λs=>bif Nat.beq 0 0&&(Nat.beq l.length s&&(Nat.beq x.cells.toList.length s&&x.cells.toList.all au))then
   cJ (bits nx) (Ev.set H (bits nx) (some (cu l e))) (some .dead) λH=>Ev.bN (Nat.succ (nx+1)) λn=>k H n else .bad) .bad=_
  rw[hs,aN,hl,hx,hone,aY,a5];have e2:Nat.beq s s=true:=Nat.beq_refl s;rw[e2];rfl
 rw[e1];exact hk _ _ ((((h.set h.1 _).succ).set h.1 _).succ) (by omega) λb l e hb hi=>(hi.other (by omega) _).other (by omega) _
end
end
end Go.Ev
namespace Go.Proofs.YthjhonhhbddhkaaGreatDoor
open Go.Ev Go.RowKit
noncomputable section
set_option maxRecDepth 100000
set_option linter.unusedVariables false
set_option linter.unusedSimpArgs false
set_option maxHeartbeats 8000000
@[simp] theorem ye (c0 c1 c2 c3:Value):ab P 31 (some (ai (.agg ⟨[c0,c1,c2,c3]⟩))) 0=aa (bif au c0 then some c0 else none) (λx=>some (ai x)) none:=by kernel_rfl
@[simp] theorem yf (c0 c1 c2 c3:Value):ab P 31 (some (ai (.agg ⟨[c0,c1,c2,c3]⟩))) 1=aa (bif au c1 then some c1 else none) (λx=>some (ai x)) none:=by kernel_rfl
@[simp] theorem yg (c0 c1 c2 c3:Value):ab P 31 (some (ai (.agg ⟨[c0,c1,c2,c3]⟩))) 2=aa (bif au c2 then some c2 else none) (λx=>some (ai x)) none:=by kernel_rfl
@[simp] theorem yh (c0 c1 c2 c3:Value):ab P 31 (some (ai (.agg ⟨[c0,c1,c2,c3]⟩))) 3=aa (bif au c3 then some c3 else none) (λx=>some (ai x)) none:=by kernel_rfl
@[simp] theorem yi (c0 c1 c2 c3 c4 c5:Value):ab P 44 (some (ai (.agg ⟨[c0,c1,c2,c3,c4,c5]⟩))) 0=aa (bif au c0 then some c0 else none) (λx=>some (ai x)) none:=by kernel_rfl
@[simp] theorem yj (c0 c1 c2 c3 c4 c5:Value):ab P 44 (some (ai (.agg ⟨[c0,c1,c2,c3,c4,c5]⟩))) 1=aa (bif au c1 then some c1 else none) (λx=>some (ai x)) none:=by kernel_rfl
@[simp] theorem yk (c0 c1 c2 c3 c4 c5:Value):ab P 44 (some (ai (.agg ⟨[c0,c1,c2,c3,c4,c5]⟩))) 2=aa (bif au c2 then some c2 else none) (λx=>some (ai x)) none:=by kernel_rfl
@[simp] theorem yl (c0 c1 c2 c3 c4 c5:Value):ab P 44 (some (ai (.agg ⟨[c0,c1,c2,c3,c4,c5]⟩))) 3=aa (bif au c3 then some c3 else none) (λx=>some (ai x)) none:=by kernel_rfl
@[simp] theorem ym (c0 c1 c2 c3 c4 c5:Value):ab P 44 (some (ai (.agg ⟨[c0,c1,c2,c3,c4,c5]⟩))) 4=aa (bif au c4 then some c4 else none) (λx=>some (ai x)) none:=by kernel_rfl
@[simp] theorem yn (c0 c1 c2 c3 c4 c5:Value):ab P 44 (some (ai (.agg ⟨[c0,c1,c2,c3,c4,c5]⟩))) 5=aa (bif au c5 then some c5 else none) (λx=>some (ai x)) none:=by kernel_rfl
@[simp] theorem yo (c0 c1 c2 c3:Value):ab P 47 (some (ai (.agg ⟨[c0,c1,c2,c3]⟩))) 0=aa (bif au c0 then some c0 else none) (λx=>some (ai x)) none:=by kernel_rfl
@[simp] theorem yp (c0 c1 c2 c3:Value):ab P 47 (some (ai (.agg ⟨[c0,c1,c2,c3]⟩))) 1=aa (bif au c1 then some c1 else none) (λx=>some (ai x)) none:=by kernel_rfl
@[simp] theorem yq (c0 c1 c2 c3:Value):ab P 47 (some (ai (.agg ⟨[c0,c1,c2,c3]⟩))) 2=aa (bif au c2 then some c2 else none) (λx=>some (ai x)) none:=by kernel_rfl
@[simp] theorem yr (c0 c1 c2 c3:Value):ab P 47 (some (ai (.agg ⟨[c0,c1,c2,c3]⟩))) 3=aa (bif au c3 then some c3 else none) (λx=>some (ai x)) none:=by kernel_rfl
@[simp] theorem yu (c0 c1 c2:Value):ab P 52 (some (ai (.agg ⟨[c0,c1,c2]⟩))) 0=aa (bif au c0 then some c0 else none) (λx=>some (ai x)) none:=by kernel_rfl
@[simp] theorem yv (c0 c1 c2:Value):ab P 52 (some (ai (.agg ⟨[c0,c1,c2]⟩))) 1=aa (bif au c1 then some c1 else none) (λx=>some (ai x)) none:=by kernel_rfl
@[simp] theorem yw (c0 c1 c2:Value):ab P 52 (some (ai (.agg ⟨[c0,c1,c2]⟩))) 2=aa (bif au c2 then some c2 else none) (λx=>some (ai x)) none:=by kernel_rfl
@[simp] theorem yx (c0 c1:Value):ab P 55 (some (ai (.agg ⟨[c0,c1]⟩))) 0=aa (bif au c0 then some c0 else none) (λx=>some (ai x)) none:=by kernel_rfl
@[simp] theorem yy (c0 c1:Value):ab P 55 (some (ai (.agg ⟨[c0,c1]⟩))) 1=aa (bif au c1 then some c1 else none) (λx=>some (ai x)) none:=by kernel_rfl
@[simp] theorem yz (c0 c1 c2 c3 c4 c5 c6 c7 c8 c9 c10 c11 c12 c13 c14 c15 c16:Value):ab P 57 (some (ai (.agg ⟨[c0,c1,c2,c3,c4,c5,c6,c7,c8,c9,c10,c11,c12,c13,c14,c15,c16]⟩))) 0=aa (bif au c0 then some c0 else none) (λx=>some (ai x)) none:=by kernel_rfl
@[simp] theorem yA (c0 c1 c2 c3 c4 c5 c6 c7 c8 c9 c10 c11 c12 c13 c14 c15 c16:Value):ab P 57 (some (ai (.agg ⟨[c0,c1,c2,c3,c4,c5,c6,c7,c8,c9,c10,c11,c12,c13,c14,c15,c16]⟩))) 1=some (ai (.agg ⟨[c1,c2,c3,c4]⟩)):=by kernel_rfl
@[simp] theorem yB (c0 c1 c2 c3 c4 c5 c6 c7 c8 c9 c10 c11 c12 c13 c14 c15 c16:Value):ab P 57 (some (ai (.agg ⟨[c0,c1,c2,c3,c4,c5,c6,c7,c8,c9,c10,c11,c12,c13,c14,c15,c16]⟩))) 2=some (ai (.agg ⟨[c5,c6,c7,c8,c9,c10]⟩)):=by kernel_rfl
@[simp] theorem yC (c0 c1 c2 c3 c4 c5 c6 c7 c8 c9 c10 c11 c12 c13 c14 c15 c16:Value):ab P 57 (some (ai (.agg ⟨[c0,c1,c2,c3,c4,c5,c6,c7,c8,c9,c10,c11,c12,c13,c14,c15,c16]⟩))) 3=aa (bif au c11 then some c11 else none) (λx=>some (ai x)) none:=by kernel_rfl
@[simp] theorem yD (c0 c1 c2 c3 c4 c5 c6 c7 c8 c9 c10 c11 c12 c13 c14 c15 c16:Value):ab P 57 (some (ai (.agg ⟨[c0,c1,c2,c3,c4,c5,c6,c7,c8,c9,c10,c11,c12,c13,c14,c15,c16]⟩))) 4=some (ai (.agg ⟨[c12,c13,c14]⟩)):=by kernel_rfl
@[simp] theorem yE (c0 c1 c2 c3 c4 c5 c6 c7 c8 c9 c10 c11 c12 c13 c14 c15 c16:Value):ab P 57 (some (ai (.agg ⟨[c0,c1,c2,c3,c4,c5,c6,c7,c8,c9,c10,c11,c12,c13,c14,c15,c16]⟩))) 5=some (ai (.agg ⟨[c15,c16]⟩)):=by kernel_rfl
@[simp] theorem yF (c0 c1 c2 c3 c4 c5 c6 c7:Value):ab P 65 (some (ai (.agg ⟨[c0,c1,c2,c3,c4,c5,c6,c7]⟩))) 0=aa (bif au c0 then some c0 else none) (λx=>some (ai x)) none:=by kernel_rfl
@[simp] theorem yG (c0 c1 c2 c3 c4 c5 c6 c7:Value):ab P 65 (some (ai (.agg ⟨[c0,c1,c2,c3,c4,c5,c6,c7]⟩))) 1=aa (bif au c1 then some c1 else none) (λx=>some (ai x)) none:=by kernel_rfl
@[simp] theorem yH (c0 c1 c2 c3 c4 c5 c6 c7:Value):ab P 65 (some (ai (.agg ⟨[c0,c1,c2,c3,c4,c5,c6,c7]⟩))) 2=some (ai (.agg ⟨[c2,c3,c4,c5,c6,c7]⟩)):=by kernel_rfl
@[simp] theorem yI (c0:Value):ab P 69 (some (ai (.agg ⟨[c0]⟩))) 0=aa (bif au c0 then some c0 else none) (λx=>some (ai x)) none:=by kernel_rfl
@[simp] theorem yJ (c0 c1:Value):ab P 73 (some (ai (.agg ⟨[c0,c1]⟩))) 0=aa (bif au c0 then some c0 else none) (λx=>some (ai x)) none:=by kernel_rfl
@[simp] theorem yK (c0 c1:Value):ab P 73 (some (ai (.agg ⟨[c0,c1]⟩))) 1=aa (bif au c1 then some c1 else none) (λx=>some (ai x)) none:=by kernel_rfl
@[simp] theorem yL (c0 c1 c2 c3:Value):ab P 77 (some (ai (.agg ⟨[c0,c1,c2,c3]⟩))) 0=aa (bif au c0 then some c0 else none) (λx=>some (ai x)) none:=by kernel_rfl
@[simp] theorem yM (c0 c1 c2 c3:Value):ab P 77 (some (ai (.agg ⟨[c0,c1,c2,c3]⟩))) 1=aa (bif au c1 then some c1 else none) (λx=>some (ai x)) none:=by kernel_rfl
@[simp] theorem yN (c0 c1 c2 c3:Value):ab P 77 (some (ai (.agg ⟨[c0,c1,c2,c3]⟩))) 2=aa (bif au c2 then some c2 else none) (λx=>some (ai x)) none:=by kernel_rfl
@[simp] theorem yO (c0 c1 c2 c3:Value):ab P 77 (some (ai (.agg ⟨[c0,c1,c2,c3]⟩))) 3=aa (bif au c3 then some c3 else none) (λx=>some (ai x)) none:=by kernel_rfl
@[simp] theorem yP (c0 c1:Value):ab P 95 (some (ai (.agg ⟨[c0,c1]⟩))) 0=aa (bif au c0 then some c0 else none) (λx=>some (ai x)) none:=by kernel_rfl
@[simp] theorem yQ (c0 c1:Value):ab P 95 (some (ai (.agg ⟨[c0,c1]⟩))) 1=aa (bif au c1 then some c1 else none) (λx=>some (ai x)) none:=by kernel_rfl
@[simp] theorem uR (c0 c1:Value):ab P 116 (some (ai (.agg ⟨[c0,c1]⟩))) 0=aa (bif au c0 then some c0 else none) (λx=>some (ai x)) none:=by kernel_rfl
@[simp] theorem uS (c0 c1:Value):ab P 116 (some (ai (.agg ⟨[c0,c1]⟩))) 1=aa (bif au c1 then some c1 else none) (λx=>some (ai x)) none:=by kernel_rfl
@[simp] theorem uT (c0 c1 c2:Value):ab P 138 (some (ai (.agg ⟨[c0,c1,c2]⟩))) 0=aa (bif au c0 then some c0 else none) (λx=>some (ai x)) none:=by kernel_rfl
@[simp] theorem uU (c0 c1 c2:Value):ab P 138 (some (ai (.agg ⟨[c0,c1,c2]⟩))) 1=aa (bif au c1 then some c1 else none) (λx=>some (ai x)) none:=by kernel_rfl
@[simp] theorem uV (c0 c1 c2:Value):ab P 138 (some (ai (.agg ⟨[c0,c1,c2]⟩))) 2=aa (bif au c2 then some c2 else none) (λx=>some (ai x)) none:=by kernel_rfl
@[simp] theorem uW (c0 c1:Value):ab P 194 (some (ai (.agg ⟨[c0,c1]⟩))) 0=aa (bif au c0 then some c0 else none) (λx=>some (ai x)) none:=by kernel_rfl
@[simp] theorem uX (c0 c1:Value):ab P 194 (some (ai (.agg ⟨[c0,c1]⟩))) 1=aa (bif au c1 then some c1 else none) (λx=>some (ai x)) none:=by kernel_rfl
@[simp] theorem yR (b:Nat):ab P 31 (some (.pointer (some ⟨b,0,none⟩))) 0=some (.pointer (some ⟨b,0,none⟩)):=by kernel_rfl
@[simp] theorem yS (b:Nat):ab P 31 (some (.pointer (some ⟨b,0,none⟩))) 1=some (.pointer (some ⟨b,1,none⟩)):=by kernel_rfl
@[simp] theorem yT (b:Nat):ab P 31 (some (.pointer (some ⟨b,0,none⟩))) 2=some (.pointer (some ⟨b,2,none⟩)):=by kernel_rfl
@[simp] theorem yU (b:Nat):ab P 31 (some (.pointer (some ⟨b,0,none⟩))) 3=some (.pointer (some ⟨b,3,none⟩)):=by kernel_rfl
@[simp] theorem yV (b:Nat):ab P 44 (some (.pointer (some ⟨b,0,none⟩))) 0=some (.pointer (some ⟨b,0,none⟩)):=by kernel_rfl
@[simp] theorem yW (b:Nat):ab P 44 (some (.pointer (some ⟨b,0,none⟩))) 1=some (.pointer (some ⟨b,1,none⟩)):=by kernel_rfl
@[simp] theorem yX (b:Nat):ab P 44 (some (.pointer (some ⟨b,0,none⟩))) 2=some (.pointer (some ⟨b,2,none⟩)):=by kernel_rfl
@[simp] theorem yY (b:Nat):ab P 44 (some (.pointer (some ⟨b,0,none⟩))) 3=some (.pointer (some ⟨b,3,none⟩)):=by kernel_rfl
@[simp] theorem yZ (b:Nat):ab P 44 (some (.pointer (some ⟨b,0,none⟩))) 4=some (.pointer (some ⟨b,4,none⟩)):=by kernel_rfl
@[simp] theorem y3 (b:Nat):ab P 44 (some (.pointer (some ⟨b,0,none⟩))) 5=some (.pointer (some ⟨b,5,none⟩)):=by kernel_rfl
@[simp] theorem y4 (b:Nat):ab P 47 (some (.pointer (some ⟨b,0,none⟩))) 0=some (.pointer (some ⟨b,0,none⟩)):=by kernel_rfl
@[simp] theorem y5 (b:Nat):ab P 47 (some (.pointer (some ⟨b,0,none⟩))) 1=some (.pointer (some ⟨b,1,none⟩)):=by kernel_rfl
@[simp] theorem y6 (b:Nat):ab P 47 (some (.pointer (some ⟨b,0,none⟩))) 2=some (.pointer (some ⟨b,2,none⟩)):=by kernel_rfl
@[simp] theorem y7 (b:Nat):ab P 47 (some (.pointer (some ⟨b,0,none⟩))) 3=some (.pointer (some ⟨b,3,none⟩)):=by kernel_rfl
@[simp] theorem y8 (b:Nat):ab P 52 (some (.pointer (some ⟨b,0,none⟩))) 0=some (.pointer (some ⟨b,0,none⟩)):=by kernel_rfl
@[simp] theorem y9 (b:Nat):ab P 52 (some (.pointer (some ⟨b,0,none⟩))) 1=some (.pointer (some ⟨b,1,none⟩)):=by kernel_rfl
@[simp] theorem y_ (b:Nat):ab P 52 (some (.pointer (some ⟨b,0,none⟩))) 2=some (.pointer (some ⟨b,2,none⟩)):=by kernel_rfl
@[simp] theorem za (b:Nat):ab P 55 (some (.pointer (some ⟨b,0,none⟩))) 0=some (.pointer (some ⟨b,0,none⟩)):=by kernel_rfl
@[simp] theorem zb (b:Nat):ab P 55 (some (.pointer (some ⟨b,0,none⟩))) 1=some (.pointer (some ⟨b,1,none⟩)):=by kernel_rfl
@[simp] theorem zc (b:Nat):ab P 57 (some (.pointer (some ⟨b,0,none⟩))) 0=some (.pointer (some ⟨b,0,none⟩)):=by kernel_rfl
@[simp] theorem zd (b:Nat):ab P 57 (some (.pointer (some ⟨b,0,none⟩))) 1=some (.pointer (some ⟨b,1,none⟩)):=by kernel_rfl
@[simp] theorem ze (b:Nat):ab P 57 (some (.pointer (some ⟨b,0,none⟩))) 2=some (.pointer (some ⟨b,5,none⟩)):=by kernel_rfl
@[simp] theorem zf (b:Nat):ab P 57 (some (.pointer (some ⟨b,0,none⟩))) 3=some (.pointer (some ⟨b,11,none⟩)):=by kernel_rfl
@[simp] theorem zg (b:Nat):ab P 57 (some (.pointer (some ⟨b,0,none⟩))) 4=some (.pointer (some ⟨b,12,none⟩)):=by kernel_rfl
@[simp] theorem zh (b:Nat):ab P 57 (some (.pointer (some ⟨b,0,none⟩))) 5=some (.pointer (some ⟨b,15,none⟩)):=by kernel_rfl
@[simp] theorem zi (b:Nat):ab P 65 (some (.pointer (some ⟨b,0,none⟩))) 0=some (.pointer (some ⟨b,0,none⟩)):=by kernel_rfl
@[simp] theorem zj (b:Nat):ab P 65 (some (.pointer (some ⟨b,0,none⟩))) 1=some (.pointer (some ⟨b,1,none⟩)):=by kernel_rfl
@[simp] theorem zk (b:Nat):ab P 65 (some (.pointer (some ⟨b,0,none⟩))) 2=some (.pointer (some ⟨b,2,none⟩)):=by kernel_rfl
@[simp] theorem zl (b:Nat):ab P 69 (some (.pointer (some ⟨b,0,none⟩))) 0=some (.pointer (some ⟨b,0,none⟩)):=by kernel_rfl
@[simp] theorem zm (b:Nat):ab P 73 (some (.pointer (some ⟨b,0,none⟩))) 0=some (.pointer (some ⟨b,0,none⟩)):=by kernel_rfl
@[simp] theorem zn (b:Nat):ab P 73 (some (.pointer (some ⟨b,0,none⟩))) 1=some (.pointer (some ⟨b,1,none⟩)):=by kernel_rfl
@[simp] theorem zo (b:Nat):ab P 77 (some (.pointer (some ⟨b,0,none⟩))) 0=some (.pointer (some ⟨b,0,none⟩)):=by kernel_rfl
@[simp] theorem zp (b:Nat):ab P 77 (some (.pointer (some ⟨b,0,none⟩))) 1=some (.pointer (some ⟨b,1,none⟩)):=by kernel_rfl
@[simp] theorem zq (b:Nat):ab P 77 (some (.pointer (some ⟨b,0,none⟩))) 2=some (.pointer (some ⟨b,2,none⟩)):=by kernel_rfl
@[simp] theorem zr (b:Nat):ab P 77 (some (.pointer (some ⟨b,0,none⟩))) 3=some (.pointer (some ⟨b,3,none⟩)):=by kernel_rfl
@[simp] theorem zt (b:Nat):ab P 95 (some (.pointer (some ⟨b,0,none⟩))) 0=some (.pointer (some ⟨b,0,none⟩)):=by kernel_rfl
@[simp] theorem zu (b:Nat):ab P 95 (some (.pointer (some ⟨b,0,none⟩))) 1=some (.pointer (some ⟨b,1,none⟩)):=by kernel_rfl
@[simp] theorem uY (b:Nat):ab P 116 (some (.pointer (some ⟨b,0,none⟩))) 0=some (.pointer (some ⟨b,0,none⟩)):=by kernel_rfl
@[simp] theorem uZ (b:Nat):ab P 116 (some (.pointer (some ⟨b,0,none⟩))) 1=some (.pointer (some ⟨b,1,none⟩)):=by kernel_rfl
@[simp] theorem u0 (b:Nat):ab P 138 (some (.pointer (some ⟨b,0,none⟩))) 0=some (.pointer (some ⟨b,0,none⟩)):=by kernel_rfl
@[simp] theorem u1 (b:Nat):ab P 138 (some (.pointer (some ⟨b,0,none⟩))) 1=some (.pointer (some ⟨b,1,none⟩)):=by kernel_rfl
@[simp] theorem u2 (b:Nat):ab P 138 (some (.pointer (some ⟨b,0,none⟩))) 2=some (.pointer (some ⟨b,2,none⟩)):=by kernel_rfl
@[simp] theorem u3 (b:Nat):ab P 194 (some (.pointer (some ⟨b,0,none⟩))) 0=some (.pointer (some ⟨b,0,none⟩)):=by kernel_rfl
@[simp] theorem u4 (b:Nat):ab P 194 (some (.pointer (some ⟨b,0,none⟩))) 1=some (.pointer (some ⟨b,1,none⟩)):=by kernel_rfl
theorem CL (b o:Nat):ab P 31 (some (.pointer (some ⟨b,o,none⟩))) 0=some (.pointer (some ⟨b,o+0,none⟩)):=o4 (by kernel_rfl)
theorem CM (b o:Nat):ab P 31 (some (.pointer (some ⟨b,o,none⟩))) 3=some (.pointer (some ⟨b,o+3,none⟩)):=o4 (by kernel_rfl)
theorem CN (b o:Nat):ab P 55 (some (.pointer (some ⟨b,o,none⟩))) 1=some (.pointer (some ⟨b,o+1,none⟩)):=o4 (by kernel_rfl)
@[simp] theorem zv (c0 c1 c2 c3:Value):rdField P 31 (some (.agg ⟨[c0,c1,c2,c3]⟩)) 0=some c0:=by kernel_rfl
@[simp] theorem zw (c0 c1 c2 c3:Value):rdField P 31 (some (.agg ⟨[c0,c1,c2,c3]⟩)) 1=some c1:=by kernel_rfl
@[simp] theorem zx (c0 c1 c2 c3:Value):rdField P 31 (some (.agg ⟨[c0,c1,c2,c3]⟩)) 2=some c2:=by kernel_rfl
@[simp] theorem zy (c0 c1 c2 c3:Value):rdField P 31 (some (.agg ⟨[c0,c1,c2,c3]⟩)) 3=some c3:=by kernel_rfl
@[simp] theorem My (H:T OB) (u:Value):ae P H 2 (some (ai u))=pM (some false) (some 1) u:=by kernel_rfl
@[simp] theorem Mz (H:T OB) (u:Value):ae P H 3 (some (ai u))=pM (some false) (some 1) u:=by kernel_rfl
@[simp] theorem MA (H:T OB) (u:Value):ae P H 4 (some (ai u))=pM (some false) (some 1) u:=by kernel_rfl
@[simp] theorem MB (H:T OB) (u:Value):ae P H 9 (some (ai u))=pM (some false) (some 1) u:=by kernel_rfl
@[simp] theorem Iq (H:T OB) (u:Value):ae P H 24 (some (ai u))=pM (some false) (some 1) u:=by kernel_rfl
@[simp] theorem Ir (H:T OB) (u:Value):ae P H 25 (some (ai u))=pM (some false) (some 1) u:=by kernel_rfl
@[simp] theorem Is (H:T OB) (u:Value):ae P H 29 (some (ai u))=pM (some false) (some 1) u:=by kernel_rfl
@[simp] theorem It (H:T OB) (c0 c1 c2 c3:Value):ae P H 31 (some (ai (.agg ⟨[c0,c1,c2,c3]⟩)))=some (.agg ⟨[c0,c1,c2,c3]⟩):=by kernel_rfl
@[simp] theorem Iu (H:T OB) (u:Value):ae P H 41 (some (ai u))=pM (some false) (some 1) u:=by kernel_rfl
@[simp] theorem Iv (H:T OB) (u:Value):ae P H 42 (some (ai u))=pM (some false) (some 1) u:=by kernel_rfl
@[simp] theorem CO (H:T OB) (c0 c1 c2 c3 c4 c5:Value):ae P H 44 (some (ai (.agg ⟨[c0,c1,c2,c3,c4,c5]⟩)))=some (.agg ⟨[c0,c1,c2,c3,c4,c5]⟩):=by kernel_rfl
@[simp] theorem CP (H:T OB) (c0 c1 c2 c3:Value):ae P H 47 (some (ai (.agg ⟨[c0,c1,c2,c3]⟩)))=some (.agg ⟨[c0,c1,c2,c3]⟩):=by kernel_rfl
@[simp] theorem Iw (H:T OB) (u:Value):ae P H 48 (some (ai u))=pM (some false) (some 1) u:=by kernel_rfl
@[simp] theorem Ix (H:T OB) (u:Value):ae P H 49 (some (ai u))=pM (some false) (some 1) u:=by kernel_rfl
@[simp] theorem Iy (H:T OB) (u:Value):ae P H 50 (some (ai u))=pM (some false) (some 1) u:=by kernel_rfl
@[simp] theorem Iz (H:T OB) (c0 c1 c2:Value):ae P H 52 (some (ai (.agg ⟨[c0,c1,c2]⟩)))=some (.agg ⟨[c0,c1,c2]⟩):=by kernel_rfl
@[simp] theorem IA (H:T OB) (u:Value):ae P H 53 (some (ai u))=pM (some false) (some 1) u:=by kernel_rfl
@[simp] theorem IB (H:T OB) (c0 c1:Value):ae P H 55 (some (ai (.agg ⟨[c0,c1]⟩)))=some (.agg ⟨[c0,c1]⟩):=by kernel_rfl
@[simp] theorem CQ (H:T OB) (c0 c1 c2 c3 c4 c5 c6 c7 c8 c9 c10 c11 c12 c13 c14 c15 c16:Value):ae P H 57 (some (ai (.agg ⟨[c0,c1,c2,c3,c4,c5,c6,c7,c8,c9,c10,c11,c12,c13,c14,c15,c16]⟩)))=some (.agg ⟨[c0,c1,c2,c3,c4,c5,c6,c7,c8,c9,c10,c11,c12,c13,c14,c15,c16]⟩):=by kernel_rfl
@[simp] theorem IC (H:T OB) (c0 c1 c2 c3 c4 c5 c6 c7:Value):ae P H 65 (some (ai (.agg ⟨[c0,c1,c2,c3,c4,c5,c6,c7]⟩)))=some (.agg ⟨[c0,c1,c2,c3,c4,c5,c6,c7]⟩):=by kernel_rfl
@[simp] theorem ID (H:T OB) (c0 c1 c2 c3 c4 c5 c6 c7 c8 c9 c10 c11 c12 c13 c14 c15 c16 c17 c18 c19 c20 c21:Value):ae P H 99 (some (ai (.agg ⟨[c0,c1,c2,c3,c4,c5,c6,c7,c8,c9,c10,c11,c12,c13,c14,c15,c16,c17,c18,c19,c20,c21]⟩)))=some (.agg ⟨[c0,c1,c2,c3,c4,c5,c6,c7,c8,c9,c10,c11,c12,c13,c14,c15,c16,c17,c18,c19,c20,c21]⟩):=by kernel_rfl
@[simp] theorem CR (H:T OB) (c0 c1 c2:Value):ae P H 138 (some (ai (.agg ⟨[c0,c1,c2]⟩)))=some (.agg ⟨[c0,c1,c2]⟩):=by kernel_rfl
@[simp] theorem CS (H:T OB) (c0 c1 c2 c3 c4 c5 c6:Value):ae P H 182 (some (ai (.agg ⟨[c0,c1,c2,c3,c4,c5,c6]⟩)))=some (.agg ⟨[c0,c1,c2,c3,c4,c5,c6]⟩):=by kernel_rfl
theorem IE {es:List Value}{i:Nat}{u:Value}(h:es[i]? = some u)(k:IntKind):ay P 24 (some (bc 17 es)) (some (.int k (i:Int)))=some (ai u):=dq (by kernel_rfl) h k
theorem zz {es:List Value}{i:Nat}{u:Value}(h:es[i]? = some u)(k:IntKind):ay P 29 (some (bc 4 es)) (some (.int k (i:Int)))=some (ai u):=dq (by kernel_rfl) h k
theorem IF {es:List Value}{i:Nat}{u:Value}(h:es[i]? = some u)(k:IntKind):ay P 41 (some (bc 6 es)) (some (.int k (i:Int)))=some (ai u):=dq (by kernel_rfl) h k
theorem qM {es:List Value}{i:Nat}{u:Value}(h:es[i]? = some u)(k:IntKind):ay P 42 (some (bc 4 es)) (some (.int k (i:Int)))=some (ai u):=dq (by kernel_rfl) h k
theorem zA {es:List Value}{i:Nat}{u:Value}(h:es[i]? = some u)(k:IntKind):ay P 48 (some (bc 8 es)) (some (.int k (i:Int)))=some (ai u):=dq (by kernel_rfl) h k
theorem IG {es:List Value}{i:Nat}{u:Value}(h:es[i]? = some u)(k:IntKind):ay P 49 (some (bc 1 es)) (some (.int k (i:Int)))=some (ai u):=dq (by kernel_rfl) h k
theorem CT {es:List Value}{i:Nat}{u:Value}(h:es[i]? = some u)(k:IntKind):ay P 50 (some (bc 2 es)) (some (.int k (i:Int)))=some (ai u):=dq (by kernel_rfl) h k
theorem u5 {es:List Value}{i:Nat}{u:Value}(h:es[i]? = some u)(k:IntKind):ay P 53 (some (bc 3 es)) (some (.int k (i:Int)))=some (ai u):=dq (by kernel_rfl) h k
theorem CU {b off len c i:Nat}(h:i<len)(k:IntKind):ay P 49 (some (.slice (some ⟨b,off,none⟩) len c)) (some (.int k (i:Int)))=some (.pointer (some ⟨b,off+i*1,none⟩)):=iv (by kernel_rfl) h k
theorem fq:P.underlying 24=some (.slice 57):=by kernel_rfl
theorem eH:P.underlying 29=some (.slice 31):=by kernel_rfl
theorem eh:P.underlying 41=some (.slice 44):=by kernel_rfl
theorem dz:P.underlying 42=some (.slice 47):=by kernel_rfl
theorem o6:P.underlying 48=some (.slice 65):=by kernel_rfl
theorem jr:P.underlying 49=some (.slice 9):=by kernel_rfl
theorem l6:P.underlying 50=some (.slice 55):=by kernel_rfl
theorem eI:P.underlying 53=some (.slice 138):=by kernel_rfl
theorem jN:P.underlying 120=some (.slice 5):=by kernel_rfl
@[simp] theorem IH (s:ByteArray) (ty:TypeId):aM P #[9] ty (some [.string s])=some (.int .i64 (s.size:Int)):=aF s (by kernel_rfl)
@[simp] theorem CV (s:Nat) (es:List Value) (ty:TypeId):aM P #[24] ty (some [bc s es])=some (.int .i64 (es.length:Int)):=dT s es (by kernel_rfl)
@[simp] theorem zB (ty:TypeId) (a:Addr) (n c:Nat):aM P #[24] ty (some [.slice (some a) n c])=some (.int .i64 (n:Int)):=dM (by kernel_rfl)
@[simp] theorem zC (ty:TypeId):aM P #[24] ty (some [.slice none 0 0])=some (.int .i64 0):=by kernel_rfl
@[simp] theorem CW (s:Nat) (es:List Value) (ty:TypeId):aM P #[29] ty (some [bc s es])=some (.int .i64 (es.length:Int)):=dT s es (by kernel_rfl)
@[simp] theorem zD (ty:TypeId) (a:Addr) (n c:Nat):aM P #[29] ty (some [.slice (some a) n c])=some (.int .i64 (n:Int)):=dM (by kernel_rfl)
@[simp] theorem zE (ty:TypeId):aM P #[29] ty (some [.slice none 0 0])=some (.int .i64 0):=by kernel_rfl
@[simp] theorem CX (s:Nat) (es:List Value) (ty:TypeId):aM P #[41] ty (some [bc s es])=some (.int .i64 (es.length:Int)):=dT s es (by kernel_rfl)
@[simp] theorem zF (ty:TypeId) (a:Addr) (n c:Nat):aM P #[41] ty (some [.slice (some a) n c])=some (.int .i64 (n:Int)):=dM (by kernel_rfl)
@[simp] theorem zG (ty:TypeId):aM P #[41] ty (some [.slice none 0 0])=some (.int .i64 0):=by kernel_rfl
@[simp] theorem CY (s:Nat) (es:List Value) (ty:TypeId):aM P #[42] ty (some [bc s es])=some (.int .i64 (es.length:Int)):=dT s es (by kernel_rfl)
@[simp] theorem zH (ty:TypeId) (a:Addr) (n c:Nat):aM P #[42] ty (some [.slice (some a) n c])=some (.int .i64 (n:Int)):=dM (by kernel_rfl)
@[simp] theorem zI (ty:TypeId):aM P #[42] ty (some [.slice none 0 0])=some (.int .i64 0):=by kernel_rfl
@[simp] theorem CZ (s:Nat) (es:List Value) (ty:TypeId):aM P #[48] ty (some [bc s es])=some (.int .i64 (es.length:Int)):=dT s es (by kernel_rfl)
@[simp] theorem zJ (ty:TypeId) (a:Addr) (n c:Nat):aM P #[48] ty (some [.slice (some a) n c])=some (.int .i64 (n:Int)):=dM (by kernel_rfl)
@[simp] theorem zK (ty:TypeId):aM P #[48] ty (some [.slice none 0 0])=some (.int .i64 0):=by kernel_rfl
@[simp] theorem C0 (s:Nat) (es:List Value) (ty:TypeId):aM P #[49] ty (some [bc s es])=some (.int .i64 (es.length:Int)):=dT s es (by kernel_rfl)
@[simp] theorem zL (ty:TypeId) (a:Addr) (n c:Nat):aM P #[49] ty (some [.slice (some a) n c])=some (.int .i64 (n:Int)):=dM (by kernel_rfl)
@[simp] theorem zM (ty:TypeId):aM P #[49] ty (some [.slice none 0 0])=some (.int .i64 0):=by kernel_rfl
@[simp] theorem C1 (s:Nat) (es:List Value) (ty:TypeId):aM P #[50] ty (some [bc s es])=some (.int .i64 (es.length:Int)):=dT s es (by kernel_rfl)
@[simp] theorem zN (ty:TypeId) (a:Addr) (n c:Nat):aM P #[50] ty (some [.slice (some a) n c])=some (.int .i64 (n:Int)):=dM (by kernel_rfl)
@[simp] theorem zO (ty:TypeId):aM P #[50] ty (some [.slice none 0 0])=some (.int .i64 0):=by kernel_rfl
@[simp] theorem C2 (s:Nat) (es:List Value) (ty:TypeId):aM P #[53] ty (some [bc s es])=some (.int .i64 (es.length:Int)):=dT s es (by kernel_rfl)
@[simp] theorem zP (ty:TypeId) (a:Addr) (n c:Nat):aM P #[53] ty (some [.slice (some a) n c])=some (.int .i64 (n:Int)):=dM (by kernel_rfl)
@[simp] theorem zQ (ty:TypeId):aM P #[53] ty (some [.slice none 0 0])=some (.int .i64 0):=by kernel_rfl
@[simp] theorem zR (s:Nat) (es:List Value) (ty:TypeId):aM P #[120] ty (some [bc s es])=some (.int .i64 (es.length:Int)):=dT s es (by kernel_rfl)
@[simp] theorem u6 (ty:TypeId) (a:Addr) (n c:Nat):aM P #[120] ty (some [.slice (some a) n c])=some (.int .i64 (n:Int)):=dM (by kernel_rfl)
@[simp] theorem u7 (ty:TypeId):aM P #[120] ty (some [.slice none 0 0])=some (.int .i64 0):=by kernel_rfl
theorem Kb:bE P 3=some [(.int .i64 0)]:=by kernel_rfl
theorem FM:bE P 24=some [(.slice none 0 0)]:=by kernel_rfl
theorem FN:bE P 25=some [(.int .i64 0)]:=by kernel_rfl
theorem bR:bE P 31=some [(.int .i64 0),(.string ⟨⟨[]⟩⟩),(.int .i64 0),(.int .i64 0)]:=by kernel_rfl
theorem bJ:bE P 44=some [(.int .i64 0),(.int .i64 0),(.string ⟨⟨[]⟩⟩),(.slice none 0 0),(.slice none 0 0),(.slice none 0 0)]:=by kernel_rfl
theorem cN:bE P 47=some [(.int .i64 0),(.int .i64 0),(.string ⟨⟨[]⟩⟩),(.slice none 0 0)]:=by kernel_rfl
theorem FO:bE P 52=some [(.slice none 0 0),(.string ⟨⟨[]⟩⟩),(.slice none 0 0)]:=by kernel_rfl
theorem gm:bE P 55=some [(.string ⟨⟨[]⟩⟩),(.slice none 0 0)]:=by kernel_rfl
theorem dt:bE P 57=some [(.int .i64 0),(.int .i64 0),(.int .i64 0),(.string ⟨⟨[]⟩⟩),(.slice none 0 0),(.int .i64 0),(.int .i64 0),(.string ⟨⟨[]⟩⟩),(.slice none 0 0),(.slice none 0 0),(.slice none 0 0),(.slice none 0 0),(.slice none 0 0),(.string ⟨⟨[]⟩⟩),(.slice none 0 0),(.string ⟨⟨[]⟩⟩),(.slice none 0 0)]:=by kernel_rfl
theorem iw:bE P 65=some [(.string ⟨⟨[]⟩⟩),(.slice none 0 0),(.int .i64 0),(.int .i64 0),(.string ⟨⟨[]⟩⟩),(.slice none 0 0),(.slice none 0 0),(.slice none 0 0)]:=by kernel_rfl
theorem FP:bE P 69=some [(.int .i64 0)]:=by kernel_rfl
theorem cw:bE P 138=some [(.int .i64 0),(.string ⟨⟨[]⟩⟩),(.slice none 0 0)]:=by kernel_rfl
theorem C3:bE P 194=some [(.string ⟨⟨[]⟩⟩),(.int .i64 0)]:=by kernel_rfl
theorem mJ:cP P 3=some false:=by kernel_rfl
theorem mK:cP P 9=some false:=by kernel_rfl
theorem kx:cP P 24=some false:=by kernel_rfl
theorem rM:cP P 25=some false:=by kernel_rfl
theorem Kc:cP P 29=some false:=by kernel_rfl
theorem l7:cP P 31=some true:=by kernel_rfl
theorem iy:cP P 41=some false:=by kernel_rfl
theorem iz:cP P 42=some false:=by kernel_rfl
theorem dj:cP P 44=some true:=by kernel_rfl
theorem ei:cP P 47=some true:=by kernel_rfl
theorem wJ:cP P 48=some false:=by kernel_rfl
theorem rN:cP P 49=some false:=by kernel_rfl
theorem wK:cP P 50=some false:=by kernel_rfl
theorem Kd:cP P 52=some true:=by kernel_rfl
theorem rO:cP P 53=some false:=by kernel_rfl
theorem rP:cP P 55=some true:=by kernel_rfl
theorem iA:cP P 57=some true:=by kernel_rfl
theorem wL:cP P 65=some true:=by kernel_rfl
theorem Ke:cP P 99=some true:=by kernel_rfl
theorem iB:cP P 138=some true:=by kernel_rfl
theorem MC:a6 P 2=some 1:=by kernel_rfl
theorem js:a6 P 3=some 1:=by kernel_rfl
theorem Kf:a6 P 5=some 1:=by kernel_rfl
theorem iC:a6 P 9=some 1:=by kernel_rfl
theorem qN:a6 P 24=some 1:=by kernel_rfl
theorem zS:a6 P 25=some 1:=by kernel_rfl
theorem ch:a6 P 31=some 4:=by kernel_rfl
theorem zT:a6 P 41=some 1:=by kernel_rfl
theorem zU:a6 P 42=some 1:=by kernel_rfl
theorem bW:a6 P 44=some 6:=by kernel_rfl
theorem da:a6 P 47=some 4:=by kernel_rfl
theorem MD:a6 P 48=some 1:=by kernel_rfl
theorem C4:a6 P 49=some 1:=by kernel_rfl
theorem II:a6 P 50=some 1:=by kernel_rfl
theorem ME:a6 P 52=some 3:=by kernel_rfl
theorem IJ:a6 P 53=some 1:=by kernel_rfl
theorem j7:a6 P 55=some 2:=by kernel_rfl
theorem eT:a6 P 57=some 17:=by kernel_rfl
theorem mL:a6 P 65=some 8:=by kernel_rfl
theorem MF:a6 P 69=some 1:=by kernel_rfl
theorem MG:a6 P 99=some 22:=by kernel_rfl
theorem cE:a6 P 138=some 3:=by kernel_rfl
theorem Kg:a6 P 194=some 2:=by kernel_rfl
@[simp] theorem C5 (H:T OB) (q a b:Bool):ah P H .eql 4 q (some (.bool a)) (some (.bool b))=some (.bool (a == b)):=by cases q<;>cases a<;>cases b<;>kernel_rfl
theorem cT {α:Type}(a b:α):(bif true then a else b)=a:=rfl
theorem cF {α:Type}(a b:α):(bif false then a else b)=b:=rfl
theorem eS {α:Type}(a:α):(a=a)=True:=eq_self a
theorem lN {α:Type}:([]:List α).length=0:=rfl
theorem af:type_of% (And.intro @cT (And.intro @cF (And.intro @eS (And.intro @lN (And.intro @mH (And.intro @jo (And.intro @la (And.intro @mI (And.intro @oV (And.intro @lb (And.intro @aN (And.intro @yb (And.intro @yc (And.intro @uO (And.intro @yd (And.intro @CG (And.intro @uP (And.intro @qC (And.intro @qD (And.intro @qE (And.intro @qF (And.intro @qG (And.intro @qH (And.intro @qI (And.intro @qJ (And.intro @qK (And.intro @oW (And.intro @oX (And.intro @rL (And.intro @oY (And.intro @na (And.intro @oe (And.intro @Bool.not_true (And.intro @Bool.not_false (And.intro @Bool.not_not (And.intro @uQ (And.intro @qL (And.intro @o5 (And.intro @CJ (And.intro @bf (And.intro @Int.cast_ofNat_Int (And.intro @decide_true (And.intro @decide_false (And.intro @Bool.and_self (And.intro @ye (And.intro @yf (And.intro @yg (And.intro @yh (And.intro @yi (And.intro @yj (And.intro @yk (And.intro @yl (And.intro @ym (And.intro @yn (And.intro @yo (And.intro @yp (And.intro @yq (And.intro @yr (And.intro @yu (And.intro @yv (And.intro @yw (And.intro @yx (And.intro @yy (And.intro @yz (And.intro @yA (And.intro @yB (And.intro @yC (And.intro @yD (And.intro @yE (And.intro @yF (And.intro @yG (And.intro @yH (And.intro @yI (And.intro @yJ (And.intro @yK (And.intro @yL (And.intro @yM (And.intro @yN (And.intro @yO (And.intro @yP (And.intro @yQ (And.intro @uR (And.intro @uS (And.intro @uT (And.intro @uU (And.intro @uV (And.intro @uW (And.intro @uX (And.intro @yR (And.intro @yS (And.intro @yT (And.intro @yU (And.intro @yV (And.intro @yW (And.intro @yX (And.intro @yY (And.intro @yZ (And.intro @y3 (And.intro @y4 (And.intro @y5 (And.intro @y6 (And.intro @y7 (And.intro @y8 (And.intro @y9 (And.intro @y_ (And.intro @za (And.intro @zb (And.intro @zc (And.intro @zd (And.intro @ze (And.intro @zf (And.intro @zg (And.intro @zh (And.intro @zi (And.intro @zj (And.intro @zk (And.intro @zl (And.intro @zm (And.intro @zn (And.intro @zo (And.intro @zp (And.intro @zq (And.intro @zr (And.intro @zt (And.intro @zu (And.intro @uY (And.intro @uZ (And.intro @u0 (And.intro @u1 (And.intro @u2 (And.intro @u3 (And.intro @u4 (And.intro @zv (And.intro @zw (And.intro @zx (And.intro @zy (And.intro @My (And.intro @Mz (And.intro @MA (And.intro @MB (And.intro @Iq (And.intro @Ir (And.intro @Is (And.intro @It (And.intro @Iu (And.intro @Iv (And.intro @CO (And.intro @CP (And.intro @Iw (And.intro @Ix (And.intro @Iy (And.intro @Iz (And.intro @IA (And.intro @IB (And.intro @CQ (And.intro @IC (And.intro @ID (And.intro @CR (And.intro @CS (And.intro @IH (And.intro @CV (And.intro @zB (And.intro @zC (And.intro @CW (And.intro @zD (And.intro @zE (And.intro @CX (And.intro @zF (And.intro @zG (And.intro @CY (And.intro @zH (And.intro @zI (And.intro @CZ (And.intro @zJ (And.intro @zK (And.intro @C0 (And.intro @zL (And.intro @zM (And.intro @C1 (And.intro @zN (And.intro @zO (And.intro @C2 (And.intro @zP (And.intro @zQ (And.intro @zR (And.intro @u6 (And.intro @u7 @C5))))))))))))))))))))))))))))))))))))))))))))))))))))))))))))))))))))))))))))))))))))))))))))))))))))))))))))))))))))))))))))))))))))))))))))))))))))))))))))))))))))))))))))))))))))))))))):=And.intro @cT (And.intro @cF (And.intro @eS (And.intro @lN (And.intro @mH (And.intro @jo (And.intro @la (And.intro @mI (And.intro @oV (And.intro @lb (And.intro @aN (And.intro @yb (And.intro @yc (And.intro @uO (And.intro @yd (And.intro @CG (And.intro @uP (And.intro @qC (And.intro @qD (And.intro @qE (And.intro @qF (And.intro @qG (And.intro @qH (And.intro @qI (And.intro @qJ (And.intro @qK (And.intro @oW (And.intro @oX (And.intro @rL (And.intro @oY (And.intro @na (And.intro @oe (And.intro @Bool.not_true (And.intro @Bool.not_false (And.intro @Bool.not_not (And.intro @uQ (And.intro @qL (And.intro @o5 (And.intro @CJ (And.intro @bf (And.intro @Int.cast_ofNat_Int (And.intro @decide_true (And.intro @decide_false (And.intro @Bool.and_self (And.intro @ye (And.intro @yf (And.intro @yg (And.intro @yh (And.intro @yi (And.intro @yj (And.intro @yk (And.intro @yl (And.intro @ym (And.intro @yn (And.intro @yo (And.intro @yp (And.intro @yq (And.intro @yr (And.intro @yu (And.intro @yv (And.intro @yw (And.intro @yx (And.intro @yy (And.intro @yz (And.intro @yA (And.intro @yB (And.intro @yC (And.intro @yD (And.intro @yE (And.intro @yF (And.intro @yG (And.intro @yH (And.intro @yI (And.intro @yJ (And.intro @yK (And.intro @yL (And.intro @yM (And.intro @yN (And.intro @yO (And.intro @yP (And.intro @yQ (And.intro @uR (And.intro @uS (And.intro @uT (And.intro @uU (And.intro @uV (And.intro @uW (And.intro @uX (And.intro @yR (And.intro @yS (And.intro @yT (And.intro @yU (And.intro @yV (And.intro @yW (And.intro @yX (And.intro @yY (And.intro @yZ (And.intro @y3 (And.intro @y4 (And.intro @y5 (And.intro @y6 (And.intro @y7 (And.intro @y8 (And.intro @y9 (And.intro @y_ (And.intro @za (And.intro @zb (And.intro @zc (And.intro @zd (And.intro @ze (And.intro @zf (And.intro @zg (And.intro @zh (And.intro @zi (And.intro @zj (And.intro @zk (And.intro @zl (And.intro @zm (And.intro @zn (And.intro @zo (And.intro @zp (And.intro @zq (And.intro @zr (And.intro @zt (And.intro @zu (And.intro @uY (And.intro @uZ (And.intro @u0 (And.intro @u1 (And.intro @u2 (And.intro @u3 (And.intro @u4 (And.intro @zv (And.intro @zw (And.intro @zx (And.intro @zy (And.intro @My (And.intro @Mz (And.intro @MA (And.intro @MB (And.intro @Iq (And.intro @Ir (And.intro @Is (And.intro @It (And.intro @Iu (And.intro @Iv (And.intro @CO (And.intro @CP (And.intro @Iw (And.intro @Ix (And.intro @Iy (And.intro @Iz (And.intro @IA (And.intro @IB (And.intro @CQ (And.intro @IC (And.intro @ID (And.intro @CR (And.intro @CS (And.intro @IH (And.intro @CV (And.intro @zB (And.intro @zC (And.intro @CW (And.intro @zD (And.intro @zE (And.intro @CX (And.intro @zF (And.intro @zG (And.intro @CY (And.intro @zH (And.intro @zI (And.intro @CZ (And.intro @zJ (And.intro @zK (And.intro @C0 (And.intro @zL (And.intro @zM (And.intro @C1 (And.intro @zN (And.intro @zO (And.intro @C2 (And.intro @zP (And.intro @zQ (And.intro @zR (And.intro @u6 (And.intro @u7 @C5))))))))))))))))))))))))))))))))))))))))))))))))))))))))))))))))))))))))))))))))))))))))))))))))))))))))))))))))))))))))))))))))))))))))))))))))))))))))))))))))))))))))))))))))))))))))))
end
end Go.Proofs.YthjhonhhbddhkaaGreatDoor
