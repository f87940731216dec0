/- Texts of this claim, side by side. -/
import Derived.Test.YthjhonhhbddhkaaGreatDoorG2
import Derived.Laws.Strings
import Derived.Test.YthjhonhhbddhkaaGreatDoorProg
import Derived.KernelRfl
namespace Go.Ev
open Go.RowKit (Below)
noncomputable section
set_option maxRecDepth 100000
set_option linter.unusedVariables false
set_option linter.unusedSimpArgs false
section
variable {P:Program}{W w w' w1:World}{f fn:FuncId}{cs cs0:List Frame}{r r1:Rt}{fr fr' fr1:Frame}{φ φ' φ1:cO}{H H' H1:T OB}{nx nx' aE nt lo hi:Nat}{tm:T Value}{tmps:Array Value}{ops:Array Oper}
 {todo k:List Item} {c:Cg} {ds:List Deferred} {kd:Bool} {O:bz->Option Rt} {pl:jF}
theorem dq.VZ {rc:Bool}{fr1:Frame}(hm:fr.mode= .run)(hs:step P (lone fr (eh rc cs0) w)= .next (lone fr1 (eh rc cs0) w))(h:dq P W kd fn lo cs0 rc φ H r fr w):dq P W kd fn lo cs0 rc φ H r fr1 w:=by
 obtain⟨φ',w',frl,⟨n,hn⟩,h2,h3,h4,h5,h6,h7,h8⟩:=h;refine⟨φ',w',frl,?_,h2,h3,h4,h5,h6,h7,h8⟩;cases n with
 | zero=>
   exfalso;have hn:Stepped.next (lone fr (eh rc cs0) w)= .next (lone frl (eh r.rc cs0) w'):=hn
   have e:fr.mode=frl.mode:=by
    injection hn with hn
    simp only[lone]at hn
    simp_all
   rw[hm]at e;cases hr:r.o with
   | ret v=>rw[hr]at h8;obtain⟨v',_,hg⟩:=h8;rw[hg.1]at e;cases e
   | gj v=>rw[hr]at h8;obtain⟨v',_,hg⟩:=h8;rw[hg.1]at e;cases e
 | succ n=>
   refine⟨n,?_⟩;simp only[runN,hs]at hn;exact hn
theorem ou (t:Nat)(v:Value):∀l:List Nat,(tW tm l).get (bits t)=some v->tm.get (bits t)=some v
 | [],h=>by rw[show tW tm []= .leaf from rfl,jb]at h;cases h
 | s::l,h=>by
   have h:(aa (tm.get (bits s)) (λv=>dt (bits s) (tW tm l) (some v) id) (tW tm l)).get (bits t)=some v:=h;cases hs:tm.get (bits s)with
   | none=>rw[hs]at h;exact ou t v l h
   | some u=>
     have h2:(set (tW tm l) (bits s) (some u)).get (bits t)=some v:=by
      rw[hs,aT,bl]at h;exact h
     clear h;rw[get_at]at h2;split at h2
     . rename_i q;subst q;exact hs.trans h2
     . exact ou t v l h2
theorem FZ {key:Nat}{t:Nat}{v:Value}(h:(yu pl fn key tm).get (bits t)=some v):tm.get (bits t)=some v:=by
 unfold yu at h;split at h
 . exact h
 . cases hl:GA fn key _ with
   | none=>rw[hl]at h;exact h
   | some l=>rw[hl]at h;exact ou t v l h
theorem mZ.mask {key:Nat}(h:mZ P W c (yu pl fn key tm) todo H nx r):mZ P W c tm todo H nx r:=λφ w lo tmps ds cs0 x htr=>
 h φ w lo tmps ds cs0 x λt v hv=>htr t v (FZ hv)
theorem m4 (hO:j9 P W O)(todo:List Item):Cc P W O (yv pl todo) todo:=λc tm H nx r h=>
 mZ.mask (show mZ P W c (yu pl c.fn (Pm todo) tm) todo H nx r from hO _ _ (G8 h))
theorem Ce (todo:List Item):Cc P W O Ao todo:=λc tm H nx r h=>(gE h).elim
def NR (P:Program)(W:World)(O:bz->Option Rt)(E:List (Nat×Kt))(k:List Item):Prop:=∀id,q_ id E=Ao\/∃k',exitTo id k=some k'/\Cc P W O (q_ id E) k'
theorem NR.skip {E:List (Nat×Kt)}{it:Item}(h:NR P W O E k)(hit:∀id,exitTo id (it::k)=exitTo id k):NR P W O E (it::k):=λj=>(h j).imp (λq=>q) λ⟨k',a,b⟩=>⟨k',(hit j).trans a,b⟩
theorem NR.block {E:List (Nat×Kt)}{K:Kt}{id:Nat}(h:NR P W O E k)(hK:Cc P W O K k):NR P W O ((id,K)::E) (.inBlock id::k):=λj=>by
 have e:q_ j ((id,K)::E)=bif Nat.beq id j then K else q_ j E:=rfl;have e2:exitTo j (.inBlock id::k)=if id == j then some k else exitTo j k:=rfl;rw[e,e2];cases hb:Nat.beq id j with
 | true=>
   have:=beq_eq hb;subst this;exact .inr ⟨k,by simp,hK⟩
 | false=>
   have hne:(id == j)=false:=by
    cases hq:id == j with
    | false=>rfl
    | true=>have:id=j:=by simpa using hq
            subst this;rw[Nat.beq_refl]at hb;cases hb
   rw[hne];exact h j
theorem K1 (hO:j9 P W O){K:Kt}(hK:Cc P W O K k)(id:Nat)(ops:Array Oper)(draw:Bool):Cc P W O (Pk P pl ops draw K) (.code (.region id ops draw)::k):=λc tm H nx r h=>by
 unfold Pk at h;rcases eo h with⟨hd,h1⟩ | ⟨hd,h1⟩
 . rcases eo h1 with⟨hm,h2⟩ | ⟨_,h2⟩
   . obtain⟨p,hp,h3⟩:=bP h2;subst hd;intro φ w lo tmps ds cs0 x htr;have hs:=step_region_draw (P:=P) (b:=dD (cH c ds) #[] []) (a:=⟨tmps,ds⟩) (k:=k) (cs:=eh c.rc cs0) (w:=w) (ops:=ops) (id:=id);rw[hm]at hs;have x':Fx P W lo cs0 c φ H nx tmps ds w.drew:=⟨x.hH.drew,x.cg,x.kC,x.kB,x.vm,x.rE⟩;obtain⟨h1,h2⟩:=fo.start (P:=P) (φ:=φ) (H:=H) hp (w.tape w.drawn (.order (dD (cH c ds) #[] []).fn id)) htr lo nx;exact dq.steps (.one hs) φ.le_refl (λ_ _ q=>⟨q,rfl⟩) (rV hO hK p tm H nx φ tmps _ _ _ _ _ h3 x' h1 h2)
   . exact(gE h2).elim
 . subst hd;exact(kJ hO hK _ c tm H nx r h1).step1 λds tmps cs w=> .one (step_region (b:=dD (cH c ds) #[] []) (a:=⟨tmps,ds⟩))
theorem rW (hO:j9 P W O)(cd:Code):∀(k:List Item) (K:Kt) (E:List (Nat×Kt)),Cc P W O K k->NR P W O E k->Cc P W O (tX P pl cd k K E) (.code cd::k):=by
 induction cd with
 | skip=>exact λk K E hK hE c tm H nx r h=>(hK c tm H nx r h).step1 λds tmps cs w=> .one (step_skip (b:=dD (cH c ds) #[] []) (a:=⟨tmps,ds⟩))
 | label l=>exact λk K E hK hE c tm H nx r h=>(hK c tm H nx r h).step1 λds tmps cs w=> .one (step_label (b:=dD (cH c ds) #[] []) (a:=⟨tmps,ds⟩))
 | ret=>exact λk K E hK hE=>ot hO (.inr ⟨k,rfl⟩)
 | region id ops draw=>exact λk K E hK hE=>K1 hO hK id ops draw
 | seq a b iha ihb=>
   intro k K E hK hE c tm H nx r h;refine mZ.step1 (λds tmps cs w=> .one (step_seq (b:=dD (cH c ds) #[] []) (a:=⟨tmps,ds⟩))) (iha (.code b::k) _ E ?_ (hE.skip λ_=>rfl) c tm H nx r h);cases hq:Tp pl a b with
   | true=>exact m4 hO _
   | false=>exact ihb k K E hK hE
 | cond q a b iha ihb=>
   intro k K E hK hE c tm H nx r h φ w lo tmps ds cs0 x htr;have h:(GB (bM P tm q) (tX P pl a k K E c tm H nx) (tX P pl b k K E c tm H nx)).run O=some r:=h;unfold GB at h;split at h
   . rename_i t hx;have he:Act.eval ⟨tmps,ds⟩ q= .bool t:=by
      rw[yP];exact((vk x.hH.gl htr (l:=[q]) Hb) q (by simp) _ hx).aI rfl
     have hs:=step_cond (P:=P) (b:=dD (cH c ds) #[] []) (a:=⟨tmps,ds⟩) (k:=k) (cs:=eh c.rc cs0) (w:=w) (x:=a) (y:=b) he;rcases eo h with⟨rfl,h⟩ | ⟨rfl,h⟩
     . exact(iha k K E hK hE c tm H nx r h φ w lo tmps ds cs0 x htr).step1 (.one hs)
     . exact(ihb k K E hK hE c tm H nx r h φ w lo tmps ds cs0 x htr).step1 (.one hs)
   . exact(gE h).elim
 | block id body ih=>
   intro k K E hK hE c tm H nx r h;refine mZ.step1 (λds tmps cs w=> .one (step_block (b:=dD (cH c ds) #[] []) (a:=⟨tmps,ds⟩))) (ih (.inBlock id::k) K ((id,K)::E) (λc tm H nx r h=> ?_) (hE.block hK) c tm H nx r h);exact(hK c tm H nx r h).step1 λds tmps cs w=> .one (step_inBlock (b:=dD (cH c ds) #[] []) (a:=⟨tmps,ds⟩))
 | loop body ih=>
   intro k K E hK hE c tm H nx r h φ w lo tmps ds cs0 x htr;have h1:=m4 (pl:=pl) hO (.inLoop body::k) c tm H nx r h φ w lo tmps ds cs0 x htr;exact(h1.VZ rfl (step_inLoop (b:=dD (cH c ds) #[] []) (a:=⟨tmps,ds⟩))).step1 (.one (step_loop (b:=dD (cH c ds) #[] []) (a:=⟨tmps,ds⟩)))
 | scope body ih=>
   intro k K E hK hE c tm H nx r h;refine mZ.step1 (λds tmps cs w=> .one (step_scope (b:=dD (cH c ds) #[] []) (a:=⟨tmps,ds⟩))) (ih (.inScope body::k) K E (λc tm H nx r h=> ?_) (hE.skip λ_=>rfl) c tm H nx r h);exact(hK c tm H nx r h).step1 λds tmps cs w=> .one (step_inScope (b:=dD (cH c ds) #[] []) (a:=⟨tmps,ds⟩))
 | exit id=>
   intro k K E hK hE c tm H nx r h;have h:(q_ id E c tm H nx).run O=some r:=h;rcases hE id with q | ⟨k',hk',hK'⟩
   . rw[q]at h;exact(gE h).elim
   . exact(hK' c tm H nx r h).step1 λds tmps cs w=> .one (step_exit (b:=dD (cH c ds) #[] []) (a:=⟨tmps,ds⟩) hk')
 | _=>exact λk K E hK hE=>Ce _
theorem AQ (hO:j9 P W O):∀todo:List Item,Cc P W O (VF P pl todo).1 todo/\NR P W O (VF P pl todo).2 todo
 | []=>⟨ot hO (.inl rfl),λid=> .inl rfl⟩
 | it::k=>by
   obtain⟨h1,h2⟩:=AQ hO k;cases it with
   | code cd=>exact⟨rW hO cd k _ _ h1 h2,h2.skip λ_=>rfl⟩
   | inBlock id=>exact⟨λc tm H nx r h=>(h1 c tm H nx r h).step1 λds tmps cs w=> .one (step_inBlock (b:=dD (cH c ds) #[] []) (a:=⟨tmps,ds⟩)),h2.block h1⟩
   | inScope b=>exact⟨λc tm H nx r h=>(h1 c tm H nx r h).step1 λds tmps cs w=> .one (step_inScope (b:=dD (cH c ds) #[] []) (a:=⟨tmps,ds⟩)),h2.skip λ_=>rfl⟩
   | inLoop body=>exact⟨m4 hO _,h2.skip λ_=>rfl⟩
   | _=>exact⟨Ce _,λid=> .inl rfl⟩
theorem K2 (hO:j9 P W O)(todo:List Item):Cc P W O (Pn P pl todo) todo:=by
 unfold Pn;split
 . rename_i body k;intro c tm H nx r h;exact mZ.step1 (λds tmps cs w=> .one (step_inLoop (b:=dD (cH c ds) #[] []) (a:=⟨tmps,ds⟩))) (rW hO body _ _ _ (m4 hO _) ((AQ hO k).2.skip λ_=>rfl) c tm H nx r h)
 . exact(AQ hO todo).1
theorem PF (hO:j9 P W O):∀q r,(aQ P pl q).run O=some r->Ha P W q r
 | .at c tm todo H nx,r,h=>K2 hO todo c tm H nx r h
 | .call f args kd rp H nx,r,h=>λφ w args' cs0 hH cg hl rE=>by
   obtain⟨fd,hf,h⟩:=bP (show(aa P.funcs[f]? (λfn=>aa fn.body (λcd=>VX P pl f kd rp fn cd args H nx) .bad) .bad).run O=some r from h);obtain⟨cd,hb,h⟩:=bP h;unfold VX at h;obtain⟨hn,h⟩:=lk h;have hn:=c_ hn;obtain⟨φ1,us,H1,aE,h,hl1,hz⟩:=mj fd.params _ _ _ φ H nx hH cg hl h;rw[dk]at h;have hlen:=hl.len;have hlen1:=hl1.len;have e:Frame.enter P f args'.toArray (kindOf kd)=dD (cH ⟨f,fd.ntmps,kd,[],rp,false⟩ []) (args'.toArray++Array.replicate (fd.ntmps-args'.toArray.size) undef) [.code cd]:=by
    simp[Frame.enter,hf,hb,dD,cH]
   rw[e];have hx:Fx P W nx cs0 ⟨f,fd.ntmps,kd,[],rp,false⟩ φ1 H1 aE (args'.toArray++Array.replicate (fd.ntmps-args'.toArray.size) undef) [] w:=⟨hz.2.1,hz.2.2.1,hz.2.2.2.2,by
    show(args'.toArray++Array.replicate (fd.ntmps-args'.toArray.size) undef).size=fd.ntmps;simp only[Array.size_append,List.size_toArray,Array.size_replicate];omega,.nil,rE.mono hz.1⟩
   refine hz.fin (rW hO cd [] _ [] (ot hO (.inl rfl)) (λid=> .inl rfl) _ _ _ _ r h φ1 w nx _ [] cs0 hx ?_);intro t v hv;rw[dF]at hv;split at hv
   . rename_i ht;rw[Nat.sub_zero]at hv;obtain⟨v',h1,h2⟩:=hl1.get hv;refine .inr ⟨v',?_,h2⟩;have:t<args'.toArray.size:=by simp;omega
     rw[Array.getElem?_append_left this];simpa using h1
   . rw[jb]at hv;cases hv
def y4 (P:Program)(W:World)(X:Ext):Prop:=∀f args v,X f args=some v->(∀x∈args,flat x=true)/\flat v=true/\
 ∀w,Below W.heap.size W w->Calls P f args.toArray w λe w'=>e= .returned v/\Below w.heap.size w w'
theorem LR.aI {l l':List Value}(h:LR φ l l')(hf:∀x∈l,flat x=true):l'=l:=by
 refine List.ext_getElem? λi=> ?_
 by_cases hi:i<l.length
 . have h5:=List.getElem?_eq_getElem hi;have h6:=List.getElem?_eq_getElem (h.len ▸ hi:i<l'.length);rw[h5,h6,(h.at_ i _ _ h5 h6).aI (hf _ (List.getElem_mem hi))]
 . rw[List.getElem?_eq_none (by have:=h.len;omega),List.getElem?_eq_none (by omega)]
theorem PG {X:Ext}(hX:y4 P W X){f:FuncId}{args:List Value}{v:Value}(h:X f args=some v)(rp:Option Value)(H:T OB)(nx:Nat):Ha P W (.call f args false rp H nx) ⟨.ret v,false,H,nx⟩:=λφ w args' cs0 hH cg hl _=>by
 obtain⟨h1,h2,h3⟩:=hX f args v h;have:=hl.aI h1;subst this;obtain⟨e,w',fr,⟨he,hb⟩,hc,hfn,hlv⟩:=h3 w hH.below cs0;subst he;obtain⟨a,b,hk,d⟩:=hlv;exact⟨φ,w',fr,hc,φ.le_refl,hH.grown hb,cg,λk _ q=>⟨q,rfl⟩,hk,hfn,v,.flat v h2,a,b,d⟩
theorem y5 {X:Ext}{q:bz}{k:Option Rt}(h:nX X q k=some r):k=some r\/∃f args rp H nx v,q= .call f args false rp H nx/\X f args=some v/\r=⟨.ret v,false,H,nx⟩:=by
 cases q with
 | «at» c tm todo H nx=>exact .inl h
 | call f args kd rp H nx=>
   cases kd with
   | true=>exact .inl h
   | false=>
     have h:@Option.rec Value (λ_=>Option Rt) k (λv=>some ⟨.ret v,false,H,nx⟩) (X f args)=some r:=h;cases hx:X f args with
     | none=>rw[hx]at h;exact .inl h
     | some v=>rw[hx]at h;cases h;exact .inr ⟨f,args,rp,H,nx,v,rfl,hx,rfl⟩
theorem m5 (pl:jF)(X:Ext)(n:Nat)(q:bz):FD P pl X (n+1) q=nX X q ((aQ P pl q).run (FD P pl X n)):=rfl
theorem NS {X:Ext}(hX:y4 P W X):∀n,j9 P W (FD P pl X n)
 | 0,q,r,h=>by cases h
 | n+1,q,r,h=>by
   rw[m5]at h;rcases y5 h with h | ⟨f,args,rp,H,nx,v,rfl,hx,rfl⟩
   . exact PF (NS hX n) q r h
   . exact PG hX hx rp H nx
theorem Q.rX {O O':bz->Option Rt}(hO:∀q r,O q=some r->O' q=some r):∀(q:Q) (r:Rt),q.run O=some r->q.run O'=some r:=by
 intro q
 induction q with
 | ret a=>exact λr h=>h
 | bad=>exact λr h=>h
 | jump c=>exact λr h=>hO c r h
 | ask c k ih=>
   intro r h;obtain⟨a,h1,h2⟩:=mX h;show aa (O' c) (λa=>(k a).run O') none=some r;rw[hO c a h1];exact ih a r h2
theorem uo {X:Ext}{q:bz}{k k':Option Rt}(hk:∀r,k=some r->k'=some r)(h:nX X q k=some r):nX X q k'=some r:=by
 cases q with
 | «at» c tm todo H nx=>exact hk r h
 | call f args kd rp H nx=>
   cases kd with
   | true=>exact hk r h
   | false=>
     have h:@Option.rec Value (λ_=>Option Rt) k (λv=>some ⟨.ret v,false,H,nx⟩) (X f args)=some r:=h;show @Option.rec Value (λ_=>Option Rt) k' (λv=>some ⟨.ret v,false,H,nx⟩) (X f args)=some r;cases hx:X f args with
     | none=>rw[hx]at h;exact hk r h
     | some v=>rw[hx]at h;exact h
theorem y6 {X:Ext}:∀(n:Nat) (q:bz) (r:Rt),FD P pl X n q=some r->FD P pl X (n+1) q=some r
 | 0,q,r,h=>by cases h
 | n+1,q,r,h=>by
   rw[m5]at h ⊢;exact uo (λr h=>Q.rX (y6 n) _ r h) h
theorem pM {X:Ext}{n m:Nat}(hn:n<=m){q:bz}{r:Rt}(h:FD P pl X n q=some r):FD P pl X m q=some r:=by
 induction hn with
 | refl=>exact h
 | step _ ih=>exact y6 _ q r ih
open Classical in
def F (P:Program)(pl:jF)(X:Ext)(q:bz):Option Rt:=if h:∃r n,FD P pl X n q=some r then some h.choose else none
theorem o0 {X:Ext}{q:bz}:F P pl X q=some r↔∃n,FD P pl X n q=some r:=by
 unfold F;constructor
 . intro h;split at h
   . rename_i hx;cases h;exact hx.choose_spec
   . cases h
 . rintro⟨n,hn⟩;have hx:∃r n,FD P pl X n q=some r:=⟨r,n,hn⟩;rw[dif_pos hx];obtain⟨m,hm⟩:=hx.choose_spec;have h1:=pM (Nat.le_max_left n m) hn;have h2:=pM (Nat.le_max_right n m) hm;rw[h1]at h2;cases h2;rfl
theorem Q.K3 {X:Ext}:∀(q:Q) (r:Rt),q.run (F P pl X)=some r->∃n,q.run (FD P pl X n)=some r:=by
 intro q
 induction q with
 | ret a=>exact λr h=>⟨0,h⟩
 | bad=>exact λr h=>(gE h).elim
 | jump c=>exact λr h=>o0.1 h
 | ask c k ih=>
   intro r h;obtain⟨a,h1,h2⟩:=mX h;obtain⟨n,hn⟩:=o0.1 h1;obtain⟨m,hm⟩:=ih a r h2;refine⟨max n m,?_⟩;show aa (FD P pl X (max n m) c) (λa=>(k a).run (FD P pl X (max n m))) none=some r;rw[pM (Nat.le_max_left n m) hn];exact Q.rX (λq r h=>pM (Nat.le_max_right n m) h) _ r hm
theorem ov {X:Ext}(q:bz):F P pl X q=nX X q ((aQ P pl q).run (F P pl X)):=by
 have up:∀r,F P pl X q=some r->nX X q ((aQ P pl q).run (F P pl X))=some r:=λr h=>by
  obtain⟨n,hn⟩:=o0.1 h;cases n with
  | zero=>cases hn
  | succ n=>
    rw[m5]at hn;exact uo (λr h=>Q.rX (λq r h=>o0.2 ⟨n,h⟩) _ r h) hn
 have down:∀r,nX X q ((aQ P pl q).run (F P pl X))=some r->F P pl X q=some r:=λr h=>by
  rcases y5 h with h | ⟨f,args,rp,H,nx,v,rfl,hx,rfl⟩
  . obtain⟨n,hn⟩:=Q.K3 _ r h;cases hF:nX X q ((aQ P pl q).run (FD P pl X n))with
    | none=>
      exfalso;rw[hn]at hF;cases q with
      | «at» c tm todo H nx=>cases hF
      | call f args kd rp H nx=>
        cases kd with
        | true=>cases hF
        | false=>
          have hF:@Option.rec Value (λ_=>Option Rt) (some r) (λv=>some ⟨.ret v,false,H,nx⟩) (X f args)=none:=hF;cases hx:X f args<;>rw[hx]at hF<;>cases hF
    | some r'=>
      have h1:F P pl X q=some r':=o0.2 ⟨n+1,by rw[m5];exact hF⟩;have h2:=up r' h1;have h3:nX X q ((aQ P pl q).run (F P pl X))=some r:=by assumption
      rw[h2]at h3;cases h3;exact h1
  . refine o0.2 ⟨1,?_⟩;rw[m5];show @Option.rec Value (λ_=>Option Rt) _ (λv=>some ⟨.ret v,false,H,nx⟩) (X f args)=_;rw[hx]
 cases h:F P pl X q with
 | some r=>exact(up r h).symm
 | none=>
   cases h2:nX X q ((aQ P pl q).run (F P pl X))with
   | none=>rfl
   | some r=>rw[down r h2]at h;cases h
theorem V0 {X:Ext}{n:Nat}{q:bz}(h:FD P pl X n q=some r):F P pl X q=some r:=o0.2 ⟨n,h⟩
theorem rY {X:Ext}(hX:y4 P W X){f:FuncId}{args args':List Value}{v:Value}{H':T OB}{nx':Nat}(hH:HR P W φ (hp H) W)(cg:φ.length=nx)(hl:LR φ args args')(hv:flat v=true)
 (h:F P pl X (.call f args false none H nx)=some ⟨.ret v,false,H',nx'⟩):Calls P f args'.toArray W λe w'=>e= .returned v/\Below W.heap.size W w':=by
 intro cs;obtain⟨n,hn⟩:=o0.1 h;obtain⟨φ1,w1,frl,s1,hle,hH1,hl1,hk1,hkk,hff,v',hv',hg⟩:=NS hX n _ _ hn φ W args' cs hH cg hl (λq=>by cases q);have:=hv'.aI hv;subst this;obtain⟨a,b,d⟩:=hg;exact⟨.returned v',w1,frl,⟨rfl,hH1.below⟩,s1,hff,a,b,hkk,d⟩
end
end
end Go.Ev
namespace Go.Ev
noncomputable section
set_option maxRecDepth 100000
set_option linter.unusedVariables false
set_option linter.unusedSimpArgs false
section
def aS (l:List (Nat×Value)):T Value:=@List.rec (Nat×Value) (λ_=>T Value) .leaf (λp _ ih=>dt (bits p.1) ih (some p.2) id) l
def PH (cd:Code):List Item->List (List Item):=
 @Code.rec (λ_=>List Item->List (List Item)) (λ_=>[]) (λ_ _ _ _=>[]) (λ_ b iha ihb k=>iha (.code b::k)++((.code b::k)::ihb k)) (λ_ _ _ iha ihb k=>iha k++ihb k) (λid _ ih k=>ih (.inBlock id::k))
  (λb ih k=>(.inLoop b::k)::ih (.inLoop b::k)) (λ_ _ _ _ _ _ _=>[]) (λ_ _=>[]) (λb ih k=>ih (.inScope b::k)) (λ_ _=>[]) (λ_ _=>[]) (λ_=>[]) (λ_ _=>[]) cd
def Tz (key:Nat)(l:List (List Item)):List Item:=@List.rec (List Item) (λ_=>List Item) [] (λt _ ih=>bif Nat.beq (Pm t) key then t else ih) l
def ax (P:Program)(f:FuncId)(key:Nat):List Item:=match P.funcs[f]? with
 | some fn=>(match fn.body with
   | some cd=>Tz key (PH cd [])
   | none=>[])
 | none=>[]
def bF (P:Program)(H:T OB)(nx:Nat)(t:TypeId)(a:Option Value)(v:Value)(k:T OB->Nat->Q):Q:=
 KK a λb off=>l9 (H.get (bits b)) λn _ _=>aa (bq P t) (λs=>
  bif Nat.beq off 0&&(Nat.beq n s&&(Nat.beq v.cells.toList.length s&&v.cells.toList.all aA))then dt (bits b) H (some .dead) λH=>bO (Nat.succ nx) λn=>k H n else .bad) .bad
variable {P:Program}{pl:jF}{X:Ext}{H H0 H1:T OB}{nx nx0 aE:Nat}{v u:Value}{R:Go.Ev.Out->T OB->Nat->Prop}
def Ag (nx0:Nat)(H0:T OB)(nx:Nat)(H:T OB):Prop:=nx0<=nx/\∀k,k<nx0->hp H k=hp H0 k
theorem Ag.refl (nx:Nat)(H:T OB):Ag nx H nx H:=⟨Nat.le_refl _,λ_ _=>rfl⟩
theorem Ag.trans (h:Ag nx0 H0 nx H)(h':Ag nx H aE H1):Ag nx0 H0 aE H1:=⟨Nat.le_trans h.1 h'.1,λk hk=>(h'.2 k (Nat.lt_of_lt_of_le hk h.1)).trans (h.2 k hk)⟩
theorem Ag.set (h:Ag nx0 H0 nx H){b:Nat}(hb:nx0<=b)(x:Option OB):Ag nx0 H0 nx (Ev.set H (bits b) x):=⟨h.1,λk hk=>by rw[bN,bg _ (by omega)];exact h.2 k hk⟩
theorem Ag.succ (h:Ag nx0 H0 nx H):Ag nx0 H0 (nx+1) H:=⟨Nat.le_succ_of_le h.1,h.2⟩
def aO (P:Program)(pl:jF)(X:Ext)(q:Q)(nx0:Nat)(H0:T OB)(R:Go.Ev.Out->T OB->Nat->Prop):Prop:=∃o H' nx',Ag nx0 H0 nx' H'/\R o H' nx'/\q.run (F P pl X)=some ⟨o,false,H',nx'⟩
abbrev vo (P:Program)(pl:jF)(X:Ext)(q:Q)(nx0:Nat)(H0:T OB)(R:Value->T OB->Nat->Prop):Prop:=aO P pl X q nx0 H0 λo H nx=>∃v,o= .ret v/\R v H nx
abbrev Wq (P:Program)(pl:jF)(X:Ext)(q:Q)(nx0:Nat)(H0:T OB)(v:Value):Prop:=vo P pl X q nx0 H0 λu _ _=>u=v
def Pure (P:Program)(pl:jF)(X:Ext)(f:FuncId)(args:List Value)(v:Value):Prop:=∀H nx,∃H' nx',Ag nx H nx' H'/\F P pl X (.call f args false none H nx)=some ⟨.ret v,false,H',nx'⟩
theorem Pure.of {f:FuncId}{args:List Value}(hx:X f args=none)(h:∀H nx,Wq P pl X (aQ P pl (.call f args false none H nx)) nx H v):Pure P pl X f args v:=λH nx=>by
 obtain⟨_,H',nx',h1,⟨_,rfl,rfl⟩,h2⟩:=h H nx;refine⟨H',nx',h1,?_⟩;rw[ov];show @Option.rec Value (λ_=>Option Rt) _ (λv=>some ⟨.ret v,false,H,nx⟩) (X f args)=_;rw[hx];exact h2
theorem Pure.ext {f:FuncId}{args:List Value}(hx:X f args=some v):Pure P pl X f args v:=λH nx=>⟨H,nx,.refl _ _,by
 rw[ov];show @Option.rec Value (λ_=>Option Rt) _ (λv=>some ⟨.ret v,false,H,nx⟩) (X f args)=_;rw[hx]⟩
theorem Wq.ret (h:Ag nx0 H0 nx H):Wq P pl X (.ret ⟨.ret v,false,H,nx⟩) nx0 H0 v:=⟨.ret v,H,nx,h,⟨v,rfl,rfl⟩,rfl⟩
theorem Wq.ic {o:Go.Ev.Out}(h:Ag nx0 H0 nx H)(hR:R o H nx):aO P pl X (.ret ⟨o,false,H,nx⟩) nx0 H0 R:=⟨o,H,nx,h,hR,rfl⟩
theorem Wq.V1 {R:Value->T OB->Nat->Prop}(h:Ag nx0 H0 nx H)(hR:R v H nx):vo P pl X (.ret ⟨.ret v,false,H,nx⟩) nx0 H0 R:=⟨.ret v,H,nx,h,⟨v,rfl,hR⟩,rfl⟩
theorem Wq.jump {q:bz}(hq:∀k,nX X q k=k)(h:aO P pl X (aQ P pl q) nx0 H0 R):aO P pl X (.jump q) nx0 H0 R:=by
 obtain⟨v,H',nx',h1,hR,h2⟩:=h;refine⟨v,H',nx',h1,hR,?_⟩;show F P pl X q=_;rw[ov,hq];exact h2
theorem Wq.call {g:FuncId}{args:List Value}{k p:Value->T OB->Nat->Q}(hg:Pure P pl X g args u)(h:Ag nx0 H0 nx H)(hk:∀H' nx',Ag nx0 H0 nx' H'->aO P pl X (k u H' nx') nx0 H0 R):
 aO P pl X (aj (.call g args false none H nx) k p) nx0 H0 R:=by
 obtain⟨H1,aE,h1,h2⟩:=hg H nx;obtain⟨v,H2,nx2,h3,hR,h4⟩:=hk H1 aE (h.trans h1);refine⟨v,H2,nx2,h3,hR,?_⟩;show aa (F P pl X (.call g args false none H nx)) (λr=>(match r.o with | .ret v=>k v r.H r.nx | .gj v=>p v r.H r.nx:Q).run (F P pl X)) none=_;rw[h2];exact h4
theorem jM {e:TypeId}{l:List Value}{k:Value->T OB->Nat->Q}(hz:bX P e=some l):ao (au P H nx e) k=k (j6 nx) (Ev.set H (bits nx) (some (di l e))) (nx+1):=by
 unfold au;rw[hz,aT,eF];rfl
theorem Wq.var {e t:TypeId}{l:List Value}{s:Nat}{x:Value}{k:T OB->Nat->Q}(hz:bX P e=some l)(hs:bq P t=some s)(hl:l.length=s)(hx:x.cells.toList.length=s)(hone:x.cells.toList.all aA=true)
 (h:Ag nx0 H0 nx H) (hk:∀H' nx',Ag nx0 H0 nx' H'->aO P pl X (k H' nx') nx0 H0 R):aO P pl X (ao (au P H nx e) λp H nx=>bF P H nx t (some p) x k) nx0 H0 R:=by
 rw[jM hz];have hg:(Ev.set H (bits nx) (some (di l e))).get (bits nx)=some (di l e):=by rw[get_at,if_pos rfl]
 have e1:bF P (Ev.set H (bits nx) (some (di l e))) (nx+1) t (some (j6 nx)) x k=k (Ev.set (Ev.set H (bits nx) (some (di l e))) (bits nx) (some .dead)) (nx+1+1):=by
  show l9 ((Ev.set H (bits nx) (some (di l e))).get (bits nx)) (λn _ _=>aa (bq P t) (λs=>bif Nat.beq 0 0&&(Nat.beq n s&&(Nat.beq x.cells.toList.length s&&x.cells.toList.all aA))then
   dt (bits nx) (Ev.set H (bits nx) (some (di l e))) (some .dead) λH=>bO (Nat.succ (nx+1)) λn=>k H n else .bad) .bad)=_
  rw[hg];show aa (bq P t) (λs=>bif Nat.beq 0 0&&(Nat.beq l.length s&&(Nat.beq x.cells.toList.length s&&x.cells.toList.all aA))then
   dt (bits nx) (Ev.set H (bits nx) (some (di l e))) (some .dead) λH=>bO (Nat.succ (nx+1)) λn=>k H n else .bad) .bad=_
  rw[hs,aT,hl,hx,hone,bl,bm];have e2:Nat.beq s s=true:=Nat.beq_refl s;rw[e2];rfl
 rw[e1];exact hk _ _ ((((h.set h.1 _).succ).set h.1 _).succ)
theorem Wq.bO {k:Nat->Q}(hk:aO P pl X (k (nx+1)) nx0 H0 R):aO P pl X (Ev.bO (Nat.succ nx) k) nx0 H0 R:=by rw[bm];exact hk
@[simp] theorem NT (n:Nat):uY (n:Int)=true:=rfl
@[simp] theorem Cf (k:IntKind) (n:Int):tn (some false) (some 1) (.int k n)=some (.int k n):=rfl
@[simp] theorem Ch (s:ByteArray):tn (some false) (some 1) (.string s)=some (.string s):=rfl
@[simp] theorem y7 (s:Bool):tn (some false) (some 1) (.bool s)=some (.bool s):=rfl
@[simp] theorem Ci (s:Nat) (es:List Value):tn (some false) (some 1) (bn s es)=some (bn s es):=rfl
@[simp] theorem He (u:Value):tn (some false) (some 1) (ak u)=some (ak u):=rfl
@[simp] theorem y8:tn (some false) (some 1) (.pointer none)=some (.pointer none):=rfl
theorem dX {t:TypeId}{s:Nat}{es:List Value}{i:Nat}{u:Value}(hs:qR P t=some s)(hi:es[i]? = some u)(k:IntKind):ay P t (some (bn s es)) (some (.int k (i:Int)))=some (ak u):=by
 show hJ (i:Int) (Gs P t (some (bn s es))) none=_;rw[eM];show KF (qR P t) s es i=_;unfold KF;rw[hs,aT,Nat.beq_refl,hi];rfl
theorem ek {t ty:TypeId}(s:Nat)(es:List Value)(h:eK P (some t)=true):aN P #[t] ty (some [bn s es])=some (.int .i64 (es.length:Int)):=by
 show(bif eK P (some t)then some (Value.int .i64 (.ofNat es.length))else none)=_;rw[h];rfl
theorem bx {α β:Type}(s:Sem α)(f:α->Sem β):b_ P (s >>= f)=(b_ P s).bind λa=>b_ P (f a):=by
 show b_ P (s.bind f)=_
 induction s with
 | pure a=>rfl
 | program k ih=>exact ih P
 | mark m k ih=>exact ih
 | _=>rfl
theorem cI {t:TypeId}{d:TypeDesc}(hu:P.underlying t=some d):b_ P (underlying t)=some d:=by
 unfold underlying;simp only[bx,program,b_,Option.bind_some,hu];rfl
theorem aK {t ty:TypeId}(s:ByteArray)(hu:P.underlying t=some .string):aN P #[t] ty (some [.string s])=some (.int .i64 (s.size:Int)):=by
 show jy P .len #[t] ty (some [.string s])=_;show(bif true&&true then qP (b_ P (builtin .len #[t] ty #[] ⟨[.string s]⟩))else none)=_;have e:b_ P (builtin .len #[t] ty #[] ⟨[.string s]⟩)=some (.value (.int .i64 (s.size:Int))):=by
  simp only[builtin,Builtin.len_];simp[bx,cI hu,goInt];rfl
 rw[e];show(qM (.int .i64 (s.size:Int)) λv=>bif flat v then some v else none)=_;rw[jH];rfl
@[simp] theorem o4 (k:IntKind) (n:Int):aA (.int k n)=true:=rfl
@[simp] theorem iJ (s:ByteArray):aA (.string s)=true:=rfl
@[simp] theorem m6 (b:Bool):aA (.bool b)=true:=rfl
@[simp] theorem o5 (s:Nat) (es:List Value):aA (bn s es)=true:=rfl
@[simp] theorem rZ (u:Value):aA (ak u)=true:=rfl
@[simp] theorem m7:aA (.pointer none)=true:=rfl
theorem dJ {w:Value}(h:flat w=true):fV P (pure w)=some w:=by
 show(qM w λv=>bif flat v then some v else none)=_;rw[jH,h];rfl
theorem Hf (op:BinOp)(t:TypeId)(k:IntKind)(a b:Int):uZ P op t (.int k a) (.int k b)=fV P (binOp op t (.int k a) (.int k b)):=by cases op<;>rfl
theorem ig {op:BinOp}{t:TypeId}{q:Bool}{a b:Value}(ha:flat a=true)(hb:flat b=true)(hq:qT a=false)(hg:l8 a=false):ai P H op t q (some a) (some b)=uZ P op t a b:=by
 have e:ai P H op t q (some a) (some b)=kp P H op t q a b:=by cases a<;>first | rfl | cases hg
 rw[e];show(bif flat a&&flat b then(bif q || !(qT a&&qT b)then uZ P op t a b else none)else qS P H op t a b)=_;rw[ha,hb,hq];cases q<;>rfl
theorem dG (op:BinOp)(t:TypeId)(q:Bool)(k:IntKind)(a b:Int):ai P H op t q (some (.int k a)) (some (.int k b))=fV P (binOp op t (.int k a) (.int k b)):=by
 rw[ig rfl rfl rfl rfl,Hf]
@[simp] theorem uq (t:TypeId) (q:Bool) (k:IntKind) (a b:Int):ai P H .add t q (some (.int k a)) (some (.int k b))=some (.int k (k.wrap (a+b))):=by
  rw[dG];have e:binOp .add t (.int k a) (.int k b)=pure (.int k (k.wrap (a+b))):=by simp[binOp,Op.intArith]
  rw[e];exact dJ rfl
@[simp] theorem ur (t:TypeId) (q:Bool) (k:IntKind) (a b:Int):ai P H .sub t q (some (.int k a)) (some (.int k b))=some (.int k (k.wrap (a-b))):=by
  rw[dG];have e:binOp .sub t (.int k a) (.int k b)=pure (.int k (k.wrap (a-b))):=by simp[binOp,Op.intArith]
  rw[e];exact dJ rfl
@[simp] theorem uu (t:TypeId) (q:Bool) (k:IntKind) (a b:Int):ai P H .mul t q (some (.int k a)) (some (.int k b))=some (.int k (k.wrap (a*b))):=by
  rw[dG];have e:binOp .mul t (.int k a) (.int k b)=pure (.int k (k.wrap (a*b))):=by simp[binOp,Op.intArith]
  rw[e];exact dJ rfl
theorem jj (t:TypeId)(q:Bool)(k:IntKind)(a b:Int)(hb:b≠0):ai P H .quo t q (some (.int k a)) (some (.int k b))=some (.int k (k.wrap (a.tdiv b))):=by
 rw[dG];have e:binOp .quo t (.int k a) (.int k b)=pure (.int k (k.wrap (a.tdiv b))):=by simp[binOp,Op.intDiv,hb]
 rw[e];exact dJ rfl
theorem lp (t:TypeId)(q:Bool)(k:IntKind)(a b:Int)(hb:b≠0):ai P H .rem t q (some (.int k a)) (some (.int k b))=some (.int k (a.tmod b)):=by
 rw[dG];have e:binOp .rem t (.int k a) (.int k b)=pure (.int k (a.tmod b)):=by simp[binOp,Op.intDiv,hb]
 rw[e];exact dJ rfl
@[simp] theorem uv (t:TypeId) (q:Bool) (k:IntKind) (a b:Int):ai P H .lss t q (some (.int k a)) (some (.int k b))=some (.bool (decide (a<b))):=by
  rw[dG];have e:binOp .lss t (.int k a) (.int k b)=pure (.bool (decide (a<b))):=by simp[binOp,Op.intCmp]
  rw[e];exact dJ rfl
@[simp] theorem uw (t:TypeId) (q:Bool) (k:IntKind) (a b:Int):ai P H .leq t q (some (.int k a)) (some (.int k b))=some (.bool (decide (a<=b))):=by
  rw[dG];have e:binOp .leq t (.int k a) (.int k b)=pure (.bool (decide (a<=b))):=by simp[binOp,Op.intCmp]
  rw[e];exact dJ rfl
@[simp] theorem ux (t:TypeId) (q:Bool) (k:IntKind) (a b:Int):ai P H .gtr t q (some (.int k a)) (some (.int k b))=some (.bool (decide (b<a))):=by
  rw[dG];have e:binOp .gtr t (.int k a) (.int k b)=pure (.bool (decide (b<a))):=by simp[binOp,Op.intCmp]
  rw[e];exact dJ rfl
@[simp] theorem uy (t:TypeId) (q:Bool) (k:IntKind) (a b:Int):ai P H .geq t q (some (.int k a)) (some (.int k b))=some (.bool (decide (b<=a))):=by
  rw[dG];have e:binOp .geq t (.int k a) (.int k b)=pure (.bool (decide (b<=a))):=by simp[binOp,Op.intCmp]
  rw[e];exact dJ rfl
@[simp] theorem uz (t:TypeId) (q:Bool) (k:IntKind) (a b:Int):ai P H .eql t q (some (.int k a)) (some (.int k b))=some (.bool (decide (a=b))):=by
  rw[dG];have e:binOp .eql t (.int k a) (.int k b)=pure (.bool (decide (a=b))):=by simp[binOp,Op.intCmp];rfl
  rw[e];exact dJ rfl
@[simp] theorem uA (t:TypeId) (q:Bool) (k:IntKind) (a b:Int):ai P H .neq t q (some (.int k a)) (some (.int k b))=some (.bool (!decide (a=b))):=by
  rw[dG];have e:binOp .neq t (.int k a) (.int k b)=pure (.bool (!decide (a=b))):=by simp[binOp,Op.intCmp];rfl
  rw[e];exact dJ rfl
theorem TA (a b:ByteArray):(a.toList == b.toList)=decide (a=b):=by
 rw[ByteArray.toList_eq,ByteArray.toList_eq];obtain⟨⟨x⟩⟩:=a;obtain⟨⟨y⟩⟩:=b;rw[Bool.eq_iff_iff];simp
theorem bt {t:TypeId}{z l:List Value}{vs:List (Nat×Value)}(hz:bX P t=some z)(hb:P.built t vs=some ⟨l⟩):az P t (some vs)=some (.agg ⟨l⟩):=by
 show aa (bX P t) (λ_=>aa (P.built t vs) (λcs=>qM (.agg cs) some) none) none=_;rw[hz,aT,hb,aT,jH]
@[simp] theorem r8 (t:TypeId) (q:Bool) (a b:ByteArray):ai P H .eql t q (some (.string a)) (some (.string b))=some (.bool (decide (a=b))):=by
  rw[ig rfl rfl rfl rfl];have e:uZ P .eql t (.string a) (.string b)=fV P (binOp .eql t (.string a) (.string b)):=rfl;rw[e,binOp_string_eql,TA];exact dJ rfl
@[simp] theorem r9 (t:TypeId) (q:Bool) (a b:ByteArray):ai P H .neq t q (some (.string a)) (some (.string b))=some (.bool (!decide (a=b))):=by
  rw[ig rfl rfl rfl rfl];have e:uZ P .neq t (.string a) (.string b)=fV P (binOp .neq t (.string a) (.string b)):=rfl;rw[e,binOp_string_neq,TA];exact dJ rfl
theorem AR (t:TypeId)(q:Bool)(a b:ByteArray)(h:a.size+b.size<=9223372036854775807):ai P H .add t q (some (.string a)) (some (.string b))=some (.string (a++b)):=by
 rw[ig rfl rfl rfl rfl];have e:uZ P .add t (.string a) (.string b)=fV P (binOp .add t (.string a) (.string b)):=rfl;have e2:Op.stringOp .add a b=pure (.string (a++b)):=by
  simp only[Op.stringOp];rw[if_neg];have:IntKind.i64.max=9223372036854775807:=by decide
  rw[this];omega
 rw[e,binOp_string_add,e2];exact dJ rfl
@[simp] theorem vp (b:Bool):eV P .not (some (.bool b))=some (.bool (!b)):=by cases b<;>rfl
@[simp] theorem r_ {β:Type} (b:Bool) (k:Bool->β) (bad:β):aB (.bool b) k bad=k b:=rfl
theorem bk {n:Int}(h: -9223372036854775808<=n/\n<9223372036854775808):IntKind.i64.wrap n=n:=by
 unfold IntKind.wrap;have:IntKind.i64.bits=64:=rfl;have:IntKind.i64.signed=true:=rfl;simp only[*,Bool.true_and];split
 . rename_i h';simp only[decide_eq_true_eq]at h';omega
 . rename_i h';simp only[decide_eq_true_eq]at h';omega
theorem Wq.bK {b:Bool}{x y:Q}(h:b=true->aO P pl X x nx0 H0 R)(h':b=false->aO P pl X y nx0 H0 R):aO P pl X (Ev.bK b x y) nx0 H0 R:=by
 cases b
 . exact h' rfl
 . exact h rfl
theorem Wq.ite {p:Prop}[Decidable p]{x y:Q}(h:p->aO P pl X x nx0 H0 R)(h':¬p->aO P pl X y nx0 H0 R):aO P pl X (Ev.bK (decide p) x y) nx0 H0 R:=
 Wq.bK (λq=>h (of_decide_eq_true q)) (λq=>h' (of_decide_eq_false q))
theorem Wq.fH {k:Nat->Q}(h:Ag nx0 H0 nx H)(hk:Ag nx0 H0 (nx+1) H->aO P pl X (k (nx+1)) nx0 H0 R):aO P pl X (Ev.bO (Nat.succ nx) k) nx0 H0 R:=Wq.bO (hk h.succ)
theorem Wq.up {σ:Type}(n:Nat)(q:Nat->σ->T OB->Nat->Q)(r:Nat->σ->Value)(hend:∀s H1 aE,Ag nx0 H0 aE H1->Wq P pl X (q n s H1 aE) nx0 H0 (r n s))
 (hstep:∀i s H1 aE,i<n->(∀s H2 nx2,Ag nx0 H0 nx2 H2->Wq P pl X (q (i+1) s H2 nx2) nx0 H0 (r (i+1) s))->Ag nx0 H0 aE H1->Wq P pl X (q i s H1 aE) nx0 H0 (r i s)):
 ∀(i:Nat) (s:σ) (H1:T OB) (aE:Nat),i<=n->Ag nx0 H0 aE H1->Wq P pl X (q i s H1 aE) nx0 H0 (r i s):=by
 have h:∀(d i:Nat),n-i=d->i<=n->∀(s:σ) (H1:T OB) (aE:Nat),Ag nx0 H0 aE H1->Wq P pl X (q i s H1 aE) nx0 H0 (r i s):=by
  intro d
  induction d with
  | zero=>intro i hd hi s H1 aE hA;obtain rfl:i=n:=by omega
          exact hend s H1 aE hA
  | succ d ih=>intro i hd hi s H1 aE hA;exact hstep i s H1 aE (by omega) (λs H2 nx2 h=>ih (i+1) (by omega) (by omega) s H2 nx2 h) hA
 exact λi s H1 aE hi hA=>h (n-i) i rfl hi s H1 aE hA
def cR (H:T OB)(b:Nat)(l:List Value)(e:TypeId):Prop:=∃tr,H.get (bits b)=some (.cells l.length tr e)/\∀i,i<l.length->tr.get (bits i)=l[i]?
theorem cR.new (l:List Value)(e:TypeId):cR (Ev.set H (bits nx) (some (di l e))) nx l e:=⟨_,by rw[get_at,if_pos rfl];rfl,λi hi=>uf l i hi⟩
theorem cR.other {b:Nat}{l:List Value}{e:TypeId}(h:cR H b l e){c:Nat}(hc:b≠c)(x:Option OB):cR (Ev.set H (bits c) x) b l e:=by
 obtain⟨tr,h1,h2⟩:=h;exact⟨tr,by rw[get_at,if_neg hc];exact h1,h2⟩
theorem cR.ag {b:Nat}{l:List Value}{e:TypeId}(h:cR H b l e)(hA:Ag nx H aE H1)(hb:b<nx):cR H1 b l e:=by
 obtain⟨tr,h1,h2⟩:=h;exact⟨tr,(show hp H1 b=_ from(hA.2 b hb).trans h1),h2⟩
def ij (l u:List Value)(off:Nat):List Value:=l.take off++u++l.drop (off+u.length)
theorem jN {tr:T Value}{l:List Value}(h:∀i,i<l.length->tr.get (bits i)=l[i]?):∀(n off:Nat),off+n<=l.length->pE tr n off=some ((l.drop off).take n)
 | 0,off,_=>by rw[yx];simp
 | n+1,off,hn=>by
   have hlt:off<l.length:=by omega
   rw[yy,h off hlt,List.getElem?_eq_getElem hlt,jN h n (off+1) (by omega),List.drop_eq_getElem_cons hlt,List.take_succ_cons]
theorem bY {b off s:Nat}{l:List Value}{e t:TypeId}(h:cR H b l e)(ha:dC P t=some true)(hs:bq P t=some s)(hn:off+s<=l.length):
 ae P H t (some (.pointer (some ⟨b,off,none⟩)))=some (.agg ⟨(l.drop off).take s⟩):=by
 obtain⟨tr,h1,h2⟩:=h;show j5 P H t b off=_;unfold j5;rw[h1];show kn P l.length tr t off=_;unfold kn;rw[ha,aT];show qO P l.length tr t off=_;unfold qO;rw[hs,aT,jN h2 s off hn,Nat.ble_eq_true_of_le hn];rfl
theorem aw {b off:Nat}{l:List Value}{e t:TypeId}{u:Value}(h:cR H b l e)(ha:dC P t=some false)(hu:l[off]? = some u):ae P H t (some (.pointer (some ⟨b,off,none⟩)))=some u:=by
 obtain⟨tr,h1,h2⟩:=h;have hlt:=(List.getElem?_eq_some_iff.1 hu).1;show j5 P H t b off=_;unfold j5;rw[h1];show kn P l.length tr t off=_;unfold kn;rw[ha,aT];show qN l.length tr off=_;unfold qN;have e1:Nat.blt off l.length=true:=Nat.ble_eq_true_of_le hlt;rw[e1,h2 off hlt,hu];rfl
theorem Wq.alloc {e:TypeId}{l:List Value}{k:Value->T OB->Nat->Q}(hz:bX P e=some l)(h:Ag nx0 H0 nx H)
 (hk:∀H',cR H' nx l e->(∀b l e,b<nx->cR H b l e->cR H' b l e)->Ag nx0 H0 (nx+1) H'->aO P pl X (k (.pointer (some ⟨nx,0,none⟩)) H' (nx+1)) nx0 H0 R):aO P pl X (ao (au P H nx e) k) nx0 H0 R:=by
 rw[jM hz];exact hk _ (cR.new l e) (λb l e hb h=>h.other (by omega) _) (h.succ.set h.1 _)
theorem Wq.box {e:TypeId}{u:Value}{k:Value->T OB->Nat->Q}(h:Ag nx0 H0 nx H)
 (hk:∀H',cR H' nx u.cells.toList e->(∀b l e,b<nx->cR H b l e->cR H' b l e)->Ag nx0 H0 (nx+1) H'->aO P pl X (k (.pointer (some ⟨nx,0,none⟩)) H' (nx+1)) nx0 H0 R):aO P pl X (ao (i_ H nx e (some u)) k) nx0 H0 R:=by
 have e1:ao (i_ H nx e (some u)) k=k (j6 nx) (Ev.set H (bits nx) (some (di u.cells.toList e))) (nx+1):=by
  show ao (yl H nx e u.cells.toList λH n=> .val (j6 nx) H n) k=_;rw[eF];rfl
 rw[e1];exact hk _ (cR.new _ e) (λb l e hb h=>h.other (by omega) _) (h.succ.set h.1 _)
theorem F0 {l u:List Value}{off i:Nat}(hn:off+u.length<=l.length):(ij l u off)[i]? = if off<=i/\i<off+u.length then u[i-off]? else l[i]? := by
 unfold ij;have h1:(l.take off).length=off:=by simp;omega
 by_cases h:i<off
 . rw[if_neg (by omega),List.append_assoc,List.getElem?_append_left (by omega),List.getElem?_take,if_pos h]
 . by_cases h2:i<off+u.length
   . rw[if_pos (by omega),List.append_assoc,List.getElem?_append_right (by omega),List.getElem?_append_left (by omega),h1]
   . rw[if_neg (by omega),List.getElem?_append_right (by simp;omega),List.getElem?_drop];congr 1;simp;omega
theorem m8 {l u:List Value}{off:Nat}(hn:off+u.length<=l.length):(ij l u off).length=l.length:=by
 unfold ij;simp;omega
theorem Wq.store {b off s:Nat}{l:List Value}{e t:TypeId}{u:Value}{k:Value->T OB->Nat->Q}(hb:cR H b l e)(hs:bq P t=some s)(hn:off+s<=l.length)(hl:u.cells.toList.length=s)(hone:u.cells.toList.all aA=true)
 (h:Ag nx0 H0 nx H) (hbn:nx0<=b) (hk:∀H',cR H' b (ij l u.cells.toList off) e->(∀c l e,c≠b->cR H c l e->cR H' c l e)->Ag nx0 H0 nx H'->aO P pl X (k undef H' nx) nx0 H0 R):
 aO P pl X (ao (ah P H nx t (some (.pointer (some ⟨b,off,none⟩))) (some u)) k) nx0 H0 R:=by
 obtain⟨tr,h1,h2⟩:=hb;have e1:ah P H nx t (some (.pointer (some ⟨b,off,none⟩))) (some u)= .val undef (Ev.set H (bits b) (some (.cells l.length (eD u.cells.toList off tr) e))) nx:=by
  show dV (H.get (bits b)) (λn tr e=>aa (bq P t) (λs=>bif Nat.beq u.cells.toList.length s&&Nat.ble (off+s) n&&u.cells.toList.all aA then
   eJ u.cells.toList off tr λtr=>dt (bits b) H (some (.cells n tr e)) λH=>eL.val undef H nx else .bad) .bad) .bad=_
  rw[h1];show aa (bq P t) (λs=>bif Nat.beq u.cells.toList.length s&&Nat.ble (off+s) l.length&&u.cells.toList.all aA then
   eJ u.cells.toList off tr λtr=>dt (bits b) H (some (.cells l.length tr e)) λH=>eL.val undef H nx else .bad) .bad=_
  rw[hs,aT,hl,Nat.beq_refl,Nat.ble_eq_true_of_le hn,hone,dk,bl];rfl
 rw[e1];have hn':off+u.cells.toList.length<=l.length:=by rw[hl];exact hn
 refine hk _ ⟨eD u.cells.toList off tr,?_,λi hi=> ?_⟩ (λc l e hc h=>h.other hc _) (h.set hbn _)
 . rw[get_at,if_pos rfl,m8 hn']
 . rw[m8 hn']at hi;rw[dF,F0 hn'];split
   . rfl
   . exact h2 i hi
end
end
end Go.Ev
namespace Go.Proofs.YthjhonhhbddhkaaGreatDoor
open Go.Ev Go.RowKit
noncomputable section
set_option maxRecDepth 100000
set_option linter.unusedVariables false
set_option linter.unusedSimpArgs false
set_option maxHeartbeats 8000000
noncomputable abbrev P:Program:=Tryz.prog
def pl:jF:=⟨[(157,[0]),(116,[0]),(142,[0]),(138,[0]),(82,[0]),(173,[0]),(79,[0]),(28,[1000]),(22,[1000]),(61,[1000]),(107,[1000]),(108,[1000]),(151,[1000]),(178,[1000]),(188,[1000]),(177,[1000]),(147,[1000]),(175,[1000]),(104,[1000]),(149,[1000]),(148,[1000]),(105,[1000]),(60,[1000]),(103,[1000]),(35,[1000]),(121,[1000]),(67,[1000]),(38,[1000]),(16,[1000]),(39,[1000]),(69,[1000]),(70,[1000]),(124,[1000]),(161,[1000]),(182,[1000]),(191,[1000]),(193,[1000]),(194,[1000]),(195,[1000]),(196,[1000]),(199,[1000]),(198,[1000]),(160,[1000]),(120,[1000]),(158,[1000]),(181,[1000]),(66,[1000]),(122,[1000]),(65,[1000]),(125,[1000])],[(76,[1]),(14,[0,1]),(29,[0]),(25,[0]),(30,[0]),(31,[0]),(115,[0]),(83,[0]),(43,[0]),(15,[0])],[(7,[2]),(15,[6]),(16,[10]),(25,[2,3]),(27,[5]),(28,[7]),(29,[2,3]),(30,[2,3]),(31,[2,3]),(33,[1]),(34,[4]),(36,[1,3]),(38,[4,5]),(39,[3,4,5,6,7,8]),(41,[7]),(42,[6]),(43,[6]),(44,[1,5]),(45,[1,5]),(47,[5,7]),(49,[1]),(50,[1,5,7,9,11,13]),(61,[3,4,5,6]),(64,[1]),(65,[4]),(66,[4]),(67,[4,5,7]),(69,[5,6]),(70,[4]),(71,[5]),(72,[2]),(73,[2]),(74,[2]),(75,[3,5,7]),(80,[1]),(81,[1]),(84,[1]),(86,[1]),(87,[1]),(90,[1]),(93,[1]),(94,[1]),(95,[1]),(96,[1,5]),(97,[1,5,7]),(98,[1,5]),(103,[4]),(105,[4]),(109,[5]),(119,[5]),(120,[3,4]),(121,[3,5,6]),(122,[4]),(124,[4]),(125,[4,5]),(126,[2]),(128,[6]),(131,[3,5]),(132,[3]),(133,[3]),(134,[3,7]),(135,[3,5]),(137,[1]),(140,[1]),(141,[1]),(143,[1]),(146,[5]),(148,[4]),(152,[3]),(158,[3,5]),(160,[3,6]),(161,[3,4]),(162,[5]),(163,[3,5]),(164,[8]),(165,[7]),(166,[3,5,6]),(168,[3]),(170,[3]),(171,[3,5,7]),(172,[1]),(175,[4]),(177,[3]),(178,[3,6]),(181,[5]),(182,[5]),(183,[1]),(185,[3]),(187,[4]),(188,[4]),(191,[3,4]),(193,[5]),(194,[5]),(195,[4,6]),(196,[3]),(198,[4]),(199,[4,8])],[((4,9),[0,3,4]),((6,20),[0,5,7,8,43]),((7,16),[1,2,5,6,7,42]),((7,23),[1,2,6,8]),((8,6),[0,1,26]),((8,18),[1,6,8,54]),((8,25),[1,6,8,11,12]),((8,32),[1,6,11,90]),((8,44),[6,11,13]),((35,7),[0,3]),((35,14),[0,3,4]),((23,9),[0,3,4]),((27,9),[3,6,7,8]),((21,7),[0,3]),((20,13),[0,4,5]),((20,20),[0,4,5]),((17,11),[0,1,2,7]),((17,22),[0,1,2,7,8,9]),((14,11),[0,1,5]),((14,18),[0,1,5,6,7,75]),((14,23),[0,1,5,6,7,8]),((14,30),[0,1,5,6,7,8,113]),((16,7),[0,5]),((16,19),[6,7]),((16,28),[6,7,8]),((34,12),[0,1,2,4]),((15,7),[0,2,3,4,8,9,10]),((22,13),[0,5,6]),((25,6),[2,3,49]),((25,11),[2,3,5]),((24,14),[0]),((49,12),[1,3,4]),((49,58),[3]),((49,27),[1,3,5]),((49,44),[3,4,75]),((49,35),[1,3,5,6]),((49,47),[3,4,7]),((49,53),[3,4,7,8]),((50,70),[3]),((50,17),[3,28,29,30]),((50,39),[3,56,57,58]),((50,59),[3,79,80,81]),((50,25),[3,28,29,30,40,41,42]),((50,45),[3,56,57,58,63,64,65]),((45,29),[1,3,4]),((45,47),[1,3,6]),((45,72),[]),((45,36),[1,3,4,89]),((45,57),[1,3,7]),((42,9),[4,9,10,11]),((41,9),[0,1,5,6]),((41,21),[0,1,5,6,7,8]),((41,29),[0,1,5,6,7,8,9]),((41,37),[0,1,5,6,7,10]),((41,47),[0,1,5,6,7,11]),((44,17),[1,3,4]),((44,45),[1,9,10]),((44,66),[1]),((44,29),[1,3,4,5,6,7,8]),((44,60),[1,9,11]),((43,9),[4,7,8,9]),((43,34),[4,7,8,9]),((43,22),[4,6,7,8,9]),((32,11),[0,1,5]),((31,6),[2,3,29]),((31,11),[2,3,5]),((31,21),[2,3,6]),((40,10),[5]),((36,10),[1,28]),((33,26),[1,66]),((33,46),[1,90]),((33,31),[1,3]),((33,48),[1,110]),((33,36),[1,3,86]),((33,53),[1,4]),((28,13),[0,5,6]),((47,19),[0,2,4]),((46,7),[0,4]),((46,12),[0,4,11]),((46,16),[0,4,36]),((108,11),[0,1,4,5]),((108,14),[0,1,4,5,6,26]),((107,5),[0,3,4]),((105,17),[0,2,5]),((105,22),[2]),((104,10),[2,3]),((103,24),[0,2,3]),((103,19),[0,2,3]),((103,31),[0,2,3]),((95,9),[1,3,4]),((94,9),[1,3,4]),((94,17),[1,3,5]),((93,9),[1,3,4]),((98,9),[3,7,8,9]),((97,9),[1,3,12,13,14]),((97,19),[3,24,25,26]),((96,9),[3,7,8,9]),((89,7),[0,3]),((87,7),[1,3]),((87,16),[1,36]),((87,62),[1,4,41,91]),((87,81),[1,4,5]),((87,86),[1,4,5,152]),((86,6),[1,16]),((75,24),[0,3]),((75,27),[0,48,49,50]),((75,39),[0,5,48,49,50,76,77,78]),((74,9),[1,2,5,6]),((73,9),[1,2,5,6]),((73,17),[1,2,5,7]),((72,9),[1,2,5,6]),((83,9),[0,1,5,6]),((83,16),[0,1,5,6]),((82,9),[0,3,4]),((81,67),[1,3,4,5]),((81,78),[1]),((80,40),[1]),((79,9),[0,3,4]),((79,18),[0,3,4,5,20]),((79,30),[0,3,4,5,43]),((78,10),[0,3]),((78,15),[0,3,4,5]),((78,28),[4,5]),((53,11),[0,1,5]),((53,16),[0,1,5,54]),((70,7),[0,2,3]),((69,5),[0,3,4]),((67,19),[0,2,6]),((67,26),[2]),((66,12),[2,3]),((65,20),[0,2,3]),((65,15),[0,2,3]),((65,25),[0,2,3]),((58,6),[0,3]),((54,7),[1,7,8,9]),((52,54),[2,5,6]),((52,38),[0,2,4,5,6,102]),((52,46),[0,2,5,6,121]),((52,49),[0,2,5,6]),((52,13),[0,2,5,6,23,24]),((52,18),[0,2,5,6,8,23,24,59]),((51,7),[0,3,4]),((51,18),[0,3,4,5,6]),((51,42),[3]),((51,24),[0,3,4]),((51,30),[0,3,4,5,69]),((51,36),[0,3,4,85]),((92,7),[0,3]),((91,7),[0,3]),((91,12),[0,3,11]),((91,16),[0,3,32]),((153,7),[1,7,8,9]),((152,8),[3,13]),((151,8),[0,2,3,13]),((151,15),[0,2,4]),((148,20),[0,2,3]),((149,7),[0,2,3]),((147,11),[0,2,3]),((147,14),[0,2,3]),((146,10),[0,4,5]),((143,7),[1,3]),((115,7),[0,1,5]),((141,42),[2,3]),((141,20),[1,2,3,10,17]),((141,28),[1,2,3,10,25]),((141,36),[1,2,3,10,31]),((133,6),[0,3,12]),((135,11),[0,18,19,20]),((134,10),[0,3]),((134,13),[0,3,21,22,23]),((134,20),[0,3,5,21,22,23]),((134,28),[0,3]),((134,35),[0,59,60,61]),((131,36),[0,3,7,51]),((131,40),[0,3]),((131,83),[0,163,164,165]),((130,14),[0]),((130,20),[0,3]),((130,26),[0,3]),((130,38),[0,3]),((130,44),[0,3]),((130,28),[0,3,72]),((128,8),[3,4,5,6,72]),((126,9),[1,2,5,6]),((137,6),[1,11]),((139,9),[0,1,5,6]),((118,9),[0,3,4]),((118,18),[0,3,4,5,20]),((118,30),[0,3,4,5,43]),((138,9),[0,3,4]),((124,7),[0,2,3]),((121,10),[0,2,3,4,19]),((122,7),[0,2,3]),((119,8),[0,5,17]),((114,6),[0,17]),((114,11),[0,3]),((114,16),[0,3,34]),((113,10),[20]),((112,6),[0,17]),((112,11),[0,3]),((111,6),[0,15]),((111,13),[0,4,5]),((110,9),[0,4,5]),((110,14),[0,4,5,27]),((117,9),[0,3,4]),((117,16),[0,3,4,5]),((102,7),[0,1,5]),((101,9),[0,4,5]),((101,10),[0,4,5]),((101,34),[0,4,5,6,49]),((100,7),[0,4,5]),((179,14),[0,6]),((178,47),[0,2,4,73,74]),((178,55),[0,2,4,6,7]),((178,60),[0,2,4,73,74]),((177,53),[0,2,4]),((177,56),[0,2,4]),((176,14),[0,6]),((175,44),[0,2,3]),((175,29),[0,2,3,7]),((175,47),[0,2,3,10,11]),((175,40),[0,2,3,7,8]),((171,18),[0,3,9,26]),((171,20),[0,3]),((171,40),[0,3]),((171,23),[0,3,52,53,54]),((171,43),[0,3,85,86,87]),((171,30),[0,3,5,52,53,54]),((171,50),[0,3,7,85,86,87]),((171,58),[0,3]),((165,5),[0,2,8,9,10]),((165,12),[0,2,7,8,9,10]),((170,46),[0,3,77]),((170,56),[0,3]),((169,6),[0,2,10]),((167,7),[0,5,6]),((166,13),[0,3,19,20,21]),((166,18),[0,3,5,19,20,21]),((166,38),[0]),((162,5),[0,6,7,8]),((162,12),[0,5,6,7,8]),((163,6),[0,3]),((163,10),[0,3]),((163,23),[0,92,93,94]),((173,9),[0,3,4]),((173,16),[0,3,4,5,39]),((172,20),[1,5]),((160,8),[0,2,3,33]),((160,42),[0,2,83]),((160,51),[0,2,5]),((160,56),[0,2,5]),((158,13),[0,2,4]),((155,6),[0,20]),((155,36),[0,58]),((145,14),[0,8,9]),((145,28),[0,34]),((188,7),[0,2,3]),((188,14),[0,2,3,4]),((188,25),[0,2,3,6]),((188,28),[0,2,3,6]),((187,8),[0,4,13]),((185,6),[0,3,17]),((184,4),[0,1,2]),((184,7),[0,1,2,6]),((184,14),[0,1,2,6]),((183,20),[5]),((182,7),[0,2,3]),((181,36),[0,2,3]),((181,17),[0,2,3,4]),((181,37),[0,2,3]),((174,10),[0,9]),((192,7),[0,1,5]),((193,7),[0,2,3]),((194,7),[0,2,3]),((195,17),[0,2,5]),((196,8),[0,2,3,32]),((196,34),[0,2,73]),((196,44),[0,2,4]),((199,10),[0,2,6,7]),((199,11),[0,2,6,7]),((198,7),[0,2,3]),((198,14),[0,2,3,4]),((198,24),[0,2,3,6])],true⟩
end
end Go.Proofs.YthjhonhhbddhkaaGreatDoor
namespace Go.Ev
noncomputable section
set_option maxRecDepth 100000
set_option linter.unusedVariables false
set_option linter.unusedSimpArgs false
section
variable {P:Program}{pl:jF}{X:Ext}{H H0 H1:T OB}{nx nx0 aE:Nat}{v u:Value}{R:Go.Ev.Out->T OB->Nat->Prop}
theorem Wq.new {e:TypeId}{l:List Value}{q:T OB->Nat->Q}(h:Ag nx0 H0 nx H)(hk:∀H',cR H' nx l e->(∀b l e,b<nx->cR H b l e->cR H' b l e)->Ag nx0 H0 (nx+1) H'->aO P pl X (q H' (nx+1)) nx0 H0 R):
 aO P pl X (q (Ev.set H (bits nx) (some (di l e))) (nx+1)) nx0 H0 R:=hk _ (cR.new l e) (λb l e hb h=>h.other (by omega) _) (h.succ.set h.1 _)
theorem Wq.row {t e:TypeId}{s n:Nat}{vs:List (Nat×Value)}{z l:List Value}{k:Value->T OB->Nat->Q}(hu:P.underlying t=some (.slice e))(hs:bq P e=some s)(hz:bX P e=some z)
 (hg:(Nat.ble (n*s) 16777216&&Nat.blt 0 (n*s)&&Nat.blt 0 z.length)=true) (hf:Instr.fill (λi=>some (i*s,s)) (bI z (n*s)) vs=some ⟨l⟩) (h:Ag nx0 H0 nx H)
 (hk:∀H',cR H' nx l e->(∀b l e,b<nx->cR H b l e->cR H' b l e)->Ag nx0 H0 (nx+1) H'->aO P pl X (k (.slice (some ⟨nx,0,none⟩) n n) H' (nx+1)) nx0 H0 R):
 aO P pl X (ao (aq P H nx t n (some vs)) k) nx0 H0 R:=by
 have e1:ao (aq P H nx t n (some vs)) k=k (.slice (some ⟨nx,0,none⟩) n n) (Ev.set H (bits nx) (some (di l e))) (nx+1):=by
  unfold aq dH;rw[aT,hu];simp only[hs,aT,hz,hg,cond_true,hf];rw[eF,bm];rfl
 rw[e1];exact Wq.new h hk
theorem AS {b s n c:Nat}{l:List Value}{e:TypeId}(h:cR H b l e)(hn:l.length=n*s):pz H s (.slice (some ⟨b,0,none⟩) n c)=some (n,l):=by
 obtain⟨tr,h1,h2⟩:=h;show aa (cellsOf H s (some ⟨b,0,none⟩) n) (λl=>some (n,l)) none=_;unfold cellsOf;simp only;rw[h1];show aa (bif Nat.ble (0+n*s) l.length then pE tr (n*s) 0 else none) (λl=>some (n,l)) none=_;rw[Nat.zero_add,hn,Nat.ble_eq_true_of_le (Nat.le_refl _),cond_true,<- hn,jN h2 _ _ (by omega)];simp
def isStr (v:Value):Bool:=match v with
 | .string _=>true
 | _=>false
theorem lq {t:TypeId}{x:Value}{base:Option Addr}{sl sc:Nat}(hx:isStr x=false):ba P H nx [t,t] (some [.slice base sl sc,x])=dH P t (λe s=>aa (pz H s x) (λp=>bif bV P e s (sl+p.1)then tv P H nx e s base sl sc p.1 p.2 else .bad) .bad) .bad:=by
 have e1:ba P H nx [t,t] (some [.slice base sl sc,x])=mF P H nx [t,t] (some [.slice base sl sc,x]):=by cases x<;>first | rfl | cases hx
 rw[e1];show(bif !Nat.beq t t then eL.bad else _)=_;rw[Nat.beq_refl];rfl
theorem Wq.PJ {t e:TypeId}{s m:Nat}{x:Value}{xs:List Value}{k:Value->T OB->Nat->Q}(hu:P.underlying t=some (.slice e))(hs:bq P e=some s)(hx:isStr x=false)(hxs:pz H s x=some (m,xs))(hsm:bV P e s m=true)(h:Ag nx0 H0 nx H)
 (h0:m=0->aO P pl X (k (.slice none 0 0) H nx) nx0 H0 R)
 (hk:∀H',0<m->cR H' nx xs e->(∀b l e,b<nx->cR H b l e->cR H' b l e)->Ag nx0 H0 (nx+1) H'->aO P pl X (k (.slice (some ⟨nx,0,none⟩) m fe) H' (nx+1)) nx0 H0 R):
 aO P pl X (ao (ba P H nx [t,t] (some [.slice none 0 0,x])) k) nx0 H0 R:=by
 rw[lq hx];unfold dH;rw[hu];simp only[hs,aT,hxs,Nat.zero_add,hsm,cond_true];show aO P pl X (ao (bif Nat.beq 0 0&&Nat.beq 0 0 then(bif Nat.beq m 0 then .val (.slice none 0 0) H nx else iD H nx e m xs)else .bad) k) nx0 H0 R;cases m with
 | zero=>exact h0 rfl
 | succ m=>
   show aO P pl X (ao (iD H nx e (m+1) xs) k) nx0 H0 R;rw[iH];exact Wq.new (q:=λH n=>k (.slice (some ⟨nx,0,none⟩) (m+1) fe) H n) h λH' a b c=>hk H' (Nat.succ_pos _) a b c
theorem Wq.app {t e e':TypeId}{b s n m:Nat}{x:Value}{l xs:List Value}{k:Value->T OB->Nat->Q}(hu:P.underlying t=some (.slice e))(hs:bq P e=some s)(hb:cR H b l e')(hs':bq P e'=some s)(hl:l.length=n*s)(hx:isStr x=false)(hxs:pz H s x=some (m,xs))
 (hone:xs.all aA=true) (hsm:bV P e s (n+m)=true) (h:Ag nx0 H0 nx H) (hbn:nx0<=b) (hbx:b<nx)
 (hk:∀H',cR H' nx (l++xs) e->(∀c l e,c≠b->c<nx->cR H c l e->cR H' c l e)->Ag nx0 H0 (nx+1) H'->aO P pl X (k (.slice (some ⟨nx,0,none⟩) (n+m) fe) H' (nx+1)) nx0 H0 R):
 aO P pl X (ao (ba P H nx [t,t] (some [.slice (some ⟨b,0,none⟩) n fe,x])) k) nx0 H0 R:=by
 rw[lq hx];unfold dH;rw[hu];simp only[hs,aT,hxs,hsm,cond_true];obtain⟨tr,h1,h2⟩:=hb;have e1:tv P H nx e s (some ⟨b,0,none⟩) n fe m xs=iD (Ev.set H (bits b) (some .dead)) nx e (n+m) (l++xs):=by
  show yn P H nx e s b 0 n fe m xs=_;unfold yn;rw[h1];have eu:Nat.beq fe fe=true:=Nat.beq_refl _;simp only[dV,eu,cond_true];unfold S6 tt;rw[h1];show(bif Nat.beq 0 0&&Nat.ble (n*s) l.length&&aa (bq P e') (λz=>Nat.beq z s) false&&xs.all aA then _ else _)=_;rw[hs',aT,Nat.beq_refl,hl,Nat.ble_eq_true_of_le (Nat.le_refl _),hone];have:pE tr (n*s) 0=some l:=by rw[<- hl,jN h2 _ _ (by omega)];simp
  rw[this,Nat.beq_refl];show dt (bits b) H (some .dead) (λH=>iD H nx e (n+m) (l++xs))=_;rw[bl]
 rw[e1,iH];exact Wq.new (q:=λH n'=>k (.slice (some ⟨nx,0,none⟩) (n+m) fe) H n') (h.set hbn _) λH' ha hb hc=>hk H' ha (λc l e hcb hcn hi=>hb c l e hcn (hi.other hcb _)) hc
theorem iK:∀(l:List Value),chunk false 1 l.length l=some l
 | []=>rfl
 | v::l=>by
   show(bif Nat.ble 1 (l.length+1)then aa (chunk false 1 l.length l) (λr=>bK false _ (aa (some v) (λv=>some (v::r)) none)) none else none)=_;rw[Nat.ble_eq_true_of_le (by omega),iK l];rfl
theorem sb (s:Nat):∀(es:List (List Value)),(∀x,x∈es->x.length=s)->chunk true s es.length es.flatten=some (es.map λx=> .agg ⟨x⟩)
 | [],_=>rfl
 | x::es,h=>by
   have hx:=h x List.mem_cons_self;show(bif Nat.ble s (x++es.flatten).length then aa (chunk true s es.length ((x++es.flatten).drop s)) (λr=>some (.agg ⟨(x++es.flatten).take s⟩::r)) none else none)=_;rw[Nat.ble_eq_true_of_le (by simp;omega),<- hx,List.drop_left,List.take_left,hx,sb s es λy hy=>h y (List.mem_cons_of_mem _ hy)];rfl
theorem Wq.TB {t e e':TypeId}{b s n c:Nat}{a:Bool}{l es:List Value}{k:Value->T OB->Nat->Q}(hu:P.underlying t=some (.slice e))(hs:bq P e=some s)(ha:dC P e=some a)(hpos:(Nat.blt 0 s&&(a||Nat.beq s 1))=true)(hb:cR H b l e')(hl:l.length=n*s)
 (hc:(Nat.beq c fe||Nat.ble n c)=true) (hch:chunk a s n l=some es) (hone:(es.all λx=>Ev.bK a true (aA x))=true) (h:Ag nx0 H0 nx H) (hbn:nx0<=b)
 (hk:∀H',(∀c l e,c≠b->cR H c l e->cR H' c l e)->Ag nx0 H0 (nx+1) H'->aO P pl X (k (bn s es) H' (nx+1)) nx0 H0 R):
 aO P pl X (eg P t (.slice (some ⟨b,0,none⟩) n c) H nx k) nx0 H0 R:=by
 obtain⟨tr,h1,h2⟩:=hb;have e2:KH P H e b 0 n=some (bn s es):=by
  unfold KH;rw[h1];show aa (bq P e) (λs=>aa (dC P e) (λa=>bif Nat.ble (0+n*s) l.length&&Nat.blt 0 s&&(a||Nat.beq s 1)then _ else none) none) none=_;rw[hs,aT,ha,aT,Nat.zero_add,hl,Nat.ble_eq_true_of_le (Nat.le_refl _),Bool.true_and,hpos,cond_true];have:pE tr (n*s) 0=some l:=by rw[<- hl,jN h2 _ _ (by omega)];simp
  rw[this,aT,hch,aT,hone];rfl
 have e1:eg P t (.slice (some ⟨b,0,none⟩) n c) H nx k=k (bn s es) (Ev.set H (bits b) (some (VQ (H.get (bits b))))) (nx+1):=by
  unfold eg;rw[hu];simp only;unfold ff;rw[hu];simp only;rw[hc,cond_true,e2,aT,bl,bm]
 rw[e1];exact hk _ (λc l e hc hi=>hi.other hc _) ((h.set hbn _).succ)
theorem Hg {s:TypeId}{f d b o:Nat}(h:ko P s f=some d):ab P s (some (.pointer (some ⟨b,o,none⟩))) f=some (.pointer (some ⟨b,o+d,none⟩)):=by
 show VM (ko P s f) (jz P s f) (.pointer (some ⟨b,o,none⟩))=_;rw[h];show bO (Nat.add o d) (λo=>some (Value.pointer (some ⟨b,o,none⟩)))=_;rw[bm];rfl
theorem jO {t:TypeId}{s b off len c i:Nat}(hs:qR P t=some s)(hi:i<len)(k:IntKind):ay P t (some (.slice (some ⟨b,off,none⟩) len c)) (some (.int k (i:Int)))=some (.pointer (some ⟨b,off+i*s,none⟩)):=by
 show hJ (i:Int) (Gs P t (some (.slice (some ⟨b,off,none⟩) len c))) none=_;rw[eM];show aa (qR P t) (λs=>bif Nat.blt i len then bO (Nat.add off (Nat.mul i s)) (λo=>some (Value.pointer (some ⟨b,o,none⟩)))else none) none=_;rw[hs,aT,show Nat.blt i len=true from Nat.ble_eq_true_of_le hi,cond_true,bm];rfl
theorem dW {t ty:TypeId}{a:Addr}{n c:Nat}(h:eK P (some t)=true):aN P #[t] ty (some [.slice (some a) n c])=some (.int .i64 (n:Int)):=by
 show(bif eK P (some t)then some (Value.int .i64 (.ofNat n))else none)=_;rw[h];rfl
@[simp] theorem Hh (a:Option Addr) (n c:Nat):tn (some false) (some 1) (.slice a n c)=some (.slice a n c):=rfl
@[simp] theorem se (a:Option Addr) (n c:Nat):aA (.slice a n c)=true:=rfl
@[simp] theorem y9 (u:Value):aJ (some (ak u))=some (ak u):=rfl
@[simp] theorem uB (a:Addr):aJ (some (.pointer (some a)))=some (.pointer (some a)):=rfl
theorem Wq.TC {f:FuncId}{args:List Value}{R1:Value->T OB->Nat->Prop}{k p:Value->T OB->Nat->Q}(hx:X f args=none)(h:vo P pl X (aQ P pl (.call f args false none H nx)) nx0 H0 R1)
 (hk:∀u H' nx',Ag nx0 H0 nx' H'->R1 u H' nx'->aO P pl X (k u H' nx') nx0 H0 R):aO P pl X (aj (.call f args false none H nx) k p) nx0 H0 R:=by
 obtain⟨_,H1,aE,h1,⟨u,rfl,hR1⟩,h2⟩:=h;obtain⟨v,H2,nx2,h3,hR,h4⟩:=hk u H1 aE h1 hR1;refine⟨v,H2,nx2,h3,hR,?_⟩;show aa (F P pl X (.call f args false none H nx)) (λr=>(match r.o with | .ret v=>k v r.H r.nx | .gj v=>p v r.H r.nx:Q).run (F P pl X)) none=_;have e1:F P pl X (.call f args false none H nx)=some ⟨.ret u,false,H1,aE⟩:=by
  rw[ov];show @Option.rec Value (λ_=>Option Rt) _ (λv=>some ⟨.ret v,false,H,nx⟩) (X f args)=_;rw[hx];exact h2
 rw[e1];exact h4
theorem Wq.gM {f:FuncId}{args:List Value}{R1:Go.Ev.Out->T OB->Nat->Prop}{k p:Value->T OB->Nat->Q}(hx:X f args=none)(h:aO P pl X (aQ P pl (.call f args false none H nx)) nx0 H0 R1)
 (hk:∀u H' nx',Ag nx0 H0 nx' H'->R1 (.ret u) H' nx'->aO P pl X (k u H' nx') nx0 H0 R) (hp:∀u H' nx',Ag nx0 H0 nx' H'->R1 (.gj u) H' nx'->aO P pl X (p u H' nx') nx0 H0 R):aO P pl X (aj (.call f args false none H nx) k p) nx0 H0 R:=by
 obtain⟨o,H1,aE,h1,hR1,h2⟩:=h;have e1:F P pl X (.call f args false none H nx)=some ⟨o,false,H1,aE⟩:=by
  rw[ov];show @Option.rec Value (λ_=>Option Rt) _ (λv=>some ⟨.ret v,false,H,nx⟩) (X f args)=_;rw[hx];exact h2
 cases o with
 | ret u=>
   obtain⟨v,H2,nx2,h3,hR,h4⟩:=hk u H1 aE h1 hR1;refine⟨v,H2,nx2,h3,hR,?_⟩;show aa (F P pl X (.call f args false none H nx)) (λr=>(match r.o with | .ret v=>k v r.H r.nx | .gj v=>p v r.H r.nx:Q).run (F P pl X)) none=_;rw[e1];exact h4
 | gj u=>
   obtain⟨v,H2,nx2,h3,hR,h4⟩:=hp u H1 aE h1 hR1;refine⟨v,H2,nx2,h3,hR,?_⟩;show aa (F P pl X (.call f args false none H nx)) (λr=>(match r.o with | .ret v=>k v r.H r.nx | .gj v=>p v r.H r.nx:Q).run (F P pl X)) none=_;rw[e1];exact h4
theorem Wq.Hi {f:FuncId}{args:List Value}{k p:Value->T OB->Nat->Q}(hx:X f args=none)(h:Wq P pl X (aQ P pl (.call f args false none H nx)) nx0 H0 u)
 (hk:∀H' nx',Ag nx0 H0 nx' H'->aO P pl X (k u H' nx') nx0 H0 R):aO P pl X (aj (.call f args false none H nx) k p) nx0 H0 R:=
 Wq.TC hx h λu' H' nx' hA hu=>by subst hu;exact hk H' nx' hA
theorem PK {t e:TypeId}{x:Value}{k:Value->T OB->Nat->Q}(hu:P.underlying t=some (.slice e)):ff P t x H nx k=eg P t x H nx k:=by
 unfold eg;rw[hu]
theorem K4 (ts:Array TypeId)(t:TypeId)(a b:Int):jy P .max ts t (some [.int .i64 a,.int .i64 b])=some (.int .i64 (if b>a then b else a)):=by
 show(bif true&&(true&&true)then qP (b_ P (builtin .max ts t #[] ⟨[.int .i64 a,.int .i64 b]⟩))else none)=_;have e:b_ P (builtin .max ts t #[] ⟨[.int .i64 a,.int .i64 b]⟩)=some (.value (.int .i64 (if b>a then b else a))):=by
  simp only[builtin,Builtin.max_];simp[bx,Builtin.max2];rfl
 rw[e];show(qM (.int .i64 (if b>a then b else a)) λv=>bif flat v then some v else none)=_;rw[jH];rfl
theorem Wq.PM {e t:TypeId}{l:List Value}{s:Nat}{x:Value}{k:T OB->Nat->Q}(hz:bX P e=some l)(hs:bq P t=some s)(hl:l.length=s)(hx:x.cells.toList.length=s)(hone:x.cells.toList.all aA=true)
 (h:Ag nx0 H0 nx H) (hk:∀H' nx',Ag nx0 H0 nx' H'->nx<=nx'->(∀b l e,b<nx->cR H b l e->cR H' b l e)->aO P pl X (k H' nx') nx0 H0 R):aO P pl X (ao (au P H nx e) λp H nx=>bF P H nx t (some p) x k) nx0 H0 R:=by
 rw[jM hz];have hg:(Ev.set H (bits nx) (some (di l e))).get (bits nx)=some (di l e):=by rw[get_at,if_pos rfl]
 have e1:bF P (Ev.set H (bits nx) (some (di l e))) (nx+1) t (some (j6 nx)) x k=k (Ev.set (Ev.set H (bits nx) (some (di l e))) (bits nx) (some .dead)) (nx+1+1):=by
  show l9 ((Ev.set H (bits nx) (some (di l e))).get (bits nx)) (λn _ _=>aa (bq P t) (λs=>bif Nat.beq 0 0&&(Nat.beq n s&&(Nat.beq x.cells.toList.length s&&x.cells.toList.all aA))then
   dt (bits nx) (Ev.set H (bits nx) (some (di l e))) (some .dead) λH=>Ev.bO (Nat.succ (nx+1)) λn=>k H n else .bad) .bad)=_
  rw[hg];show aa (bq P t) (λs=>bif Nat.beq 0 0&&(Nat.beq l.length s&&(Nat.beq x.cells.toList.length s&&x.cells.toList.all aA))then
   dt (bits nx) (Ev.set H (bits nx) (some (di l e))) (some .dead) λH=>Ev.bO (Nat.succ (nx+1)) λn=>k H n else .bad) .bad=_
  rw[hs,aT,hl,hx,hone,bl,bm];have e2:Nat.beq s s=true:=Nat.beq_refl s;rw[e2];rfl
 rw[e1];exact hk _ _ ((((h.set h.1 _).succ).set h.1 _).succ) (by omega) λb l e hb hi=>(hi.other (by omega) _).other (by omega) _
end
end
end Go.Ev
namespace Go.Proofs.YthjhonhhbddhkaaGreatDoor
open Go.Ev Go.RowKit
noncomputable section
set_option maxRecDepth 100000
set_option linter.unusedVariables false
set_option linter.unusedSimpArgs false
set_option maxHeartbeats 8000000
@[simp] theorem Cj (c0 c1 c2 c3:Value):ab P 31 (some (ak (.agg ⟨[c0,c1,c2,c3]⟩))) 0=aa (bif aA c0 then some c0 else none) (λx=>some (ak x)) none:=by kernel_rfl
@[simp] theorem Ck (c0 c1 c2 c3:Value):ab P 31 (some (ak (.agg ⟨[c0,c1,c2,c3]⟩))) 1=aa (bif aA c1 then some c1 else none) (λx=>some (ak x)) none:=by kernel_rfl
@[simp] theorem Cl (c0 c1 c2 c3:Value):ab P 31 (some (ak (.agg ⟨[c0,c1,c2,c3]⟩))) 2=aa (bif aA c2 then some c2 else none) (λx=>some (ak x)) none:=by kernel_rfl
@[simp] theorem Cm (c0 c1 c2 c3:Value):ab P 31 (some (ak (.agg ⟨[c0,c1,c2,c3]⟩))) 3=aa (bif aA c3 then some c3 else none) (λx=>some (ak x)) none:=by kernel_rfl
@[simp] theorem Cn (c0 c1 c2 c3 c4 c5:Value):ab P 44 (some (ak (.agg ⟨[c0,c1,c2,c3,c4,c5]⟩))) 0=aa (bif aA c0 then some c0 else none) (λx=>some (ak x)) none:=by kernel_rfl
@[simp] theorem Co (c0 c1 c2 c3 c4 c5:Value):ab P 44 (some (ak (.agg ⟨[c0,c1,c2,c3,c4,c5]⟩))) 1=aa (bif aA c1 then some c1 else none) (λx=>some (ak x)) none:=by kernel_rfl
@[simp] theorem Cp (c0 c1 c2 c3 c4 c5:Value):ab P 44 (some (ak (.agg ⟨[c0,c1,c2,c3,c4,c5]⟩))) 2=aa (bif aA c2 then some c2 else none) (λx=>some (ak x)) none:=by kernel_rfl
@[simp] theorem Cq (c0 c1 c2 c3 c4 c5:Value):ab P 44 (some (ak (.agg ⟨[c0,c1,c2,c3,c4,c5]⟩))) 3=aa (bif aA c3 then some c3 else none) (λx=>some (ak x)) none:=by kernel_rfl
@[simp] theorem Cr (c0 c1 c2 c3 c4 c5:Value):ab P 44 (some (ak (.agg ⟨[c0,c1,c2,c3,c4,c5]⟩))) 4=aa (bif aA c4 then some c4 else none) (λx=>some (ak x)) none:=by kernel_rfl
@[simp] theorem Cs (c0 c1 c2 c3 c4 c5:Value):ab P 44 (some (ak (.agg ⟨[c0,c1,c2,c3,c4,c5]⟩))) 5=aa (bif aA c5 then some c5 else none) (λx=>some (ak x)) none:=by kernel_rfl
@[simp] theorem Ct (c0 c1 c2 c3:Value):ab P 47 (some (ak (.agg ⟨[c0,c1,c2,c3]⟩))) 0=aa (bif aA c0 then some c0 else none) (λx=>some (ak x)) none:=by kernel_rfl
@[simp] theorem Cu (c0 c1 c2 c3:Value):ab P 47 (some (ak (.agg ⟨[c0,c1,c2,c3]⟩))) 1=aa (bif aA c1 then some c1 else none) (λx=>some (ak x)) none:=by kernel_rfl
@[simp] theorem Cv (c0 c1 c2 c3:Value):ab P 47 (some (ak (.agg ⟨[c0,c1,c2,c3]⟩))) 2=aa (bif aA c2 then some c2 else none) (λx=>some (ak x)) none:=by kernel_rfl
@[simp] theorem Cw (c0 c1 c2 c3:Value):ab P 47 (some (ak (.agg ⟨[c0,c1,c2,c3]⟩))) 3=aa (bif aA c3 then some c3 else none) (λx=>some (ak x)) none:=by kernel_rfl
@[simp] theorem Cx (c0 c1 c2:Value):ab P 52 (some (ak (.agg ⟨[c0,c1,c2]⟩))) 0=aa (bif aA c0 then some c0 else none) (λx=>some (ak x)) none:=by kernel_rfl
@[simp] theorem Cy (c0 c1 c2:Value):ab P 52 (some (ak (.agg ⟨[c0,c1,c2]⟩))) 1=aa (bif aA c1 then some c1 else none) (λx=>some (ak x)) none:=by kernel_rfl
@[simp] theorem Cz (c0 c1 c2:Value):ab P 52 (some (ak (.agg ⟨[c0,c1,c2]⟩))) 2=aa (bif aA c2 then some c2 else none) (λx=>some (ak x)) none:=by kernel_rfl
@[simp] theorem CA (c0 c1:Value):ab P 55 (some (ak (.agg ⟨[c0,c1]⟩))) 0=aa (bif aA c0 then some c0 else none) (λx=>some (ak x)) none:=by kernel_rfl
@[simp] theorem CB (c0 c1:Value):ab P 55 (some (ak (.agg ⟨[c0,c1]⟩))) 1=aa (bif aA c1 then some c1 else none) (λx=>some (ak x)) none:=by kernel_rfl
@[simp] theorem CC (c0 c1 c2 c3 c4 c5 c6 c7 c8 c9 c10 c11 c12 c13 c14 c15 c16:Value):ab P 57 (some (ak (.agg ⟨[c0,c1,c2,c3,c4,c5,c6,c7,c8,c9,c10,c11,c12,c13,c14,c15,c16]⟩))) 0=aa (bif aA c0 then some c0 else none) (λx=>some (ak x)) none:=by kernel_rfl
@[simp] theorem CD (c0 c1 c2 c3 c4 c5 c6 c7 c8 c9 c10 c11 c12 c13 c14 c15 c16:Value):ab P 57 (some (ak (.agg ⟨[c0,c1,c2,c3,c4,c5,c6,c7,c8,c9,c10,c11,c12,c13,c14,c15,c16]⟩))) 1=some (ak (.agg ⟨[c1,c2,c3,c4]⟩)):=by kernel_rfl
@[simp] theorem CE (c0 c1 c2 c3 c4 c5 c6 c7 c8 c9 c10 c11 c12 c13 c14 c15 c16:Value):ab P 57 (some (ak (.agg ⟨[c0,c1,c2,c3,c4,c5,c6,c7,c8,c9,c10,c11,c12,c13,c14,c15,c16]⟩))) 2=some (ak (.agg ⟨[c5,c6,c7,c8,c9,c10]⟩)):=by kernel_rfl
@[simp] theorem CF (c0 c1 c2 c3 c4 c5 c6 c7 c8 c9 c10 c11 c12 c13 c14 c15 c16:Value):ab P 57 (some (ak (.agg ⟨[c0,c1,c2,c3,c4,c5,c6,c7,c8,c9,c10,c11,c12,c13,c14,c15,c16]⟩))) 3=aa (bif aA c11 then some c11 else none) (λx=>some (ak x)) none:=by kernel_rfl
@[simp] theorem CG (c0 c1 c2 c3 c4 c5 c6 c7 c8 c9 c10 c11 c12 c13 c14 c15 c16:Value):ab P 57 (some (ak (.agg ⟨[c0,c1,c2,c3,c4,c5,c6,c7,c8,c9,c10,c11,c12,c13,c14,c15,c16]⟩))) 4=some (ak (.agg ⟨[c12,c13,c14]⟩)):=by kernel_rfl
@[simp] theorem CH (c0 c1 c2 c3 c4 c5 c6 c7 c8 c9 c10 c11 c12 c13 c14 c15 c16:Value):ab P 57 (some (ak (.agg ⟨[c0,c1,c2,c3,c4,c5,c6,c7,c8,c9,c10,c11,c12,c13,c14,c15,c16]⟩))) 5=some (ak (.agg ⟨[c15,c16]⟩)):=by kernel_rfl
@[simp] theorem CI (c0 c1 c2 c3 c4 c5 c6 c7:Value):ab P 65 (some (ak (.agg ⟨[c0,c1,c2,c3,c4,c5,c6,c7]⟩))) 0=aa (bif aA c0 then some c0 else none) (λx=>some (ak x)) none:=by kernel_rfl
@[simp] theorem CJ (c0 c1 c2 c3 c4 c5 c6 c7:Value):ab P 65 (some (ak (.agg ⟨[c0,c1,c2,c3,c4,c5,c6,c7]⟩))) 1=aa (bif aA c1 then some c1 else none) (λx=>some (ak x)) none:=by kernel_rfl
@[simp] theorem CK (c0 c1 c2 c3 c4 c5 c6 c7:Value):ab P 65 (some (ak (.agg ⟨[c0,c1,c2,c3,c4,c5,c6,c7]⟩))) 2=some (ak (.agg ⟨[c2,c3,c4,c5,c6,c7]⟩)):=by kernel_rfl
@[simp] theorem CL (c0:Value):ab P 69 (some (ak (.agg ⟨[c0]⟩))) 0=aa (bif aA c0 then some c0 else none) (λx=>some (ak x)) none:=by kernel_rfl
@[simp] theorem CM (c0 c1:Value):ab P 73 (some (ak (.agg ⟨[c0,c1]⟩))) 0=aa (bif aA c0 then some c0 else none) (λx=>some (ak x)) none:=by kernel_rfl
@[simp] theorem CO (c0 c1:Value):ab P 73 (some (ak (.agg ⟨[c0,c1]⟩))) 1=aa (bif aA c1 then some c1 else none) (λx=>some (ak x)) none:=by kernel_rfl
@[simp] theorem CP (c0 c1 c2 c3:Value):ab P 77 (some (ak (.agg ⟨[c0,c1,c2,c3]⟩))) 0=aa (bif aA c0 then some c0 else none) (λx=>some (ak x)) none:=by kernel_rfl
@[simp] theorem CQ (c0 c1 c2 c3:Value):ab P 77 (some (ak (.agg ⟨[c0,c1,c2,c3]⟩))) 1=aa (bif aA c1 then some c1 else none) (λx=>some (ak x)) none:=by kernel_rfl
@[simp] theorem CR (c0 c1 c2 c3:Value):ab P 77 (some (ak (.agg ⟨[c0,c1,c2,c3]⟩))) 2=aa (bif aA c2 then some c2 else none) (λx=>some (ak x)) none:=by kernel_rfl
@[simp] theorem CS (c0 c1 c2 c3:Value):ab P 77 (some (ak (.agg ⟨[c0,c1,c2,c3]⟩))) 3=aa (bif aA c3 then some c3 else none) (λx=>some (ak x)) none:=by kernel_rfl
@[simp] theorem CT (c0 c1:Value):ab P 95 (some (ak (.agg ⟨[c0,c1]⟩))) 0=aa (bif aA c0 then some c0 else none) (λx=>some (ak x)) none:=by kernel_rfl
@[simp] theorem CU (c0 c1:Value):ab P 95 (some (ak (.agg ⟨[c0,c1]⟩))) 1=aa (bif aA c1 then some c1 else none) (λx=>some (ak x)) none:=by kernel_rfl
@[simp] theorem y_ (c0 c1:Value):ab P 116 (some (ak (.agg ⟨[c0,c1]⟩))) 0=aa (bif aA c0 then some c0 else none) (λx=>some (ak x)) none:=by kernel_rfl
@[simp] theorem za (c0 c1:Value):ab P 116 (some (ak (.agg ⟨[c0,c1]⟩))) 1=aa (bif aA c1 then some c1 else none) (λx=>some (ak x)) none:=by kernel_rfl
@[simp] theorem zb (c0 c1 c2:Value):ab P 138 (some (ak (.agg ⟨[c0,c1,c2]⟩))) 0=aa (bif aA c0 then some c0 else none) (λx=>some (ak x)) none:=by kernel_rfl
@[simp] theorem zc (c0 c1 c2:Value):ab P 138 (some (ak (.agg ⟨[c0,c1,c2]⟩))) 1=aa (bif aA c1 then some c1 else none) (λx=>some (ak x)) none:=by kernel_rfl
@[simp] theorem zd (c0 c1 c2:Value):ab P 138 (some (ak (.agg ⟨[c0,c1,c2]⟩))) 2=aa (bif aA c2 then some c2 else none) (λx=>some (ak x)) none:=by kernel_rfl
@[simp] theorem ze (c0 c1:Value):ab P 194 (some (ak (.agg ⟨[c0,c1]⟩))) 0=aa (bif aA c0 then some c0 else none) (λx=>some (ak x)) none:=by kernel_rfl
@[simp] theorem zf (c0 c1:Value):ab P 194 (some (ak (.agg ⟨[c0,c1]⟩))) 1=aa (bif aA c1 then some c1 else none) (λx=>some (ak x)) none:=by kernel_rfl
@[simp] theorem CV (b:Nat):ab P 31 (some (.pointer (some ⟨b,0,none⟩))) 0=some (.pointer (some ⟨b,0,none⟩)):=by kernel_rfl
@[simp] theorem CW (b:Nat):ab P 31 (some (.pointer (some ⟨b,0,none⟩))) 1=some (.pointer (some ⟨b,1,none⟩)):=by kernel_rfl
@[simp] theorem CX (b:Nat):ab P 31 (some (.pointer (some ⟨b,0,none⟩))) 2=some (.pointer (some ⟨b,2,none⟩)):=by kernel_rfl
@[simp] theorem CY (b:Nat):ab P 31 (some (.pointer (some ⟨b,0,none⟩))) 3=some (.pointer (some ⟨b,3,none⟩)):=by kernel_rfl
@[simp] theorem CZ (b:Nat):ab P 44 (some (.pointer (some ⟨b,0,none⟩))) 0=some (.pointer (some ⟨b,0,none⟩)):=by kernel_rfl
@[simp] theorem C0 (b:Nat):ab P 44 (some (.pointer (some ⟨b,0,none⟩))) 1=some (.pointer (some ⟨b,1,none⟩)):=by kernel_rfl
@[simp] theorem C1 (b:Nat):ab P 44 (some (.pointer (some ⟨b,0,none⟩))) 2=some (.pointer (some ⟨b,2,none⟩)):=by kernel_rfl
@[simp] theorem C2 (b:Nat):ab P 44 (some (.pointer (some ⟨b,0,none⟩))) 3=some (.pointer (some ⟨b,3,none⟩)):=by kernel_rfl
@[simp] theorem C3 (b:Nat):ab P 44 (some (.pointer (some ⟨b,0,none⟩))) 4=some (.pointer (some ⟨b,4,none⟩)):=by kernel_rfl
@[simp] theorem C4 (b:Nat):ab P 44 (some (.pointer (some ⟨b,0,none⟩))) 5=some (.pointer (some ⟨b,5,none⟩)):=by kernel_rfl
@[simp] theorem C5 (b:Nat):ab P 47 (some (.pointer (some ⟨b,0,none⟩))) 0=some (.pointer (some ⟨b,0,none⟩)):=by kernel_rfl
@[simp] theorem C6 (b:Nat):ab P 47 (some (.pointer (some ⟨b,0,none⟩))) 1=some (.pointer (some ⟨b,1,none⟩)):=by kernel_rfl
@[simp] theorem C7 (b:Nat):ab P 47 (some (.pointer (some ⟨b,0,none⟩))) 2=some (.pointer (some ⟨b,2,none⟩)):=by kernel_rfl
@[simp] theorem C8 (b:Nat):ab P 47 (some (.pointer (some ⟨b,0,none⟩))) 3=some (.pointer (some ⟨b,3,none⟩)):=by kernel_rfl
@[simp] theorem C9 (b:Nat):ab P 52 (some (.pointer (some ⟨b,0,none⟩))) 0=some (.pointer (some ⟨b,0,none⟩)):=by kernel_rfl
@[simp] theorem C_ (b:Nat):ab P 52 (some (.pointer (some ⟨b,0,none⟩))) 1=some (.pointer (some ⟨b,1,none⟩)):=by kernel_rfl
@[simp] theorem Da (b:Nat):ab P 52 (some (.pointer (some ⟨b,0,none⟩))) 2=some (.pointer (some ⟨b,2,none⟩)):=by kernel_rfl
@[simp] theorem Db (b:Nat):ab P 55 (some (.pointer (some ⟨b,0,none⟩))) 0=some (.pointer (some ⟨b,0,none⟩)):=by kernel_rfl
@[simp] theorem Dc (b:Nat):ab P 55 (some (.pointer (some ⟨b,0,none⟩))) 1=some (.pointer (some ⟨b,1,none⟩)):=by kernel_rfl
@[simp] theorem vq (b:Nat):ab P 57 (some (.pointer (some ⟨b,0,none⟩))) 0=some (.pointer (some ⟨b,0,none⟩)):=by kernel_rfl
@[simp] theorem vr (b:Nat):ab P 57 (some (.pointer (some ⟨b,0,none⟩))) 1=some (.pointer (some ⟨b,1,none⟩)):=by kernel_rfl
@[simp] theorem vt (b:Nat):ab P 57 (some (.pointer (some ⟨b,0,none⟩))) 2=some (.pointer (some ⟨b,5,none⟩)):=by kernel_rfl
@[simp] theorem m9 (b:Nat):ab P 57 (some (.pointer (some ⟨b,0,none⟩))) 3=some (.pointer (some ⟨b,11,none⟩)):=by kernel_rfl
@[simp] theorem vu (b:Nat):ab P 57 (some (.pointer (some ⟨b,0,none⟩))) 4=some (.pointer (some ⟨b,12,none⟩)):=by kernel_rfl
@[simp] theorem vw (b:Nat):ab P 57 (some (.pointer (some ⟨b,0,none⟩))) 5=some (.pointer (some ⟨b,15,none⟩)):=by kernel_rfl
@[simp] theorem vx (b:Nat):ab P 65 (some (.pointer (some ⟨b,0,none⟩))) 0=some (.pointer (some ⟨b,0,none⟩)):=by kernel_rfl
@[simp] theorem vy (b:Nat):ab P 65 (some (.pointer (some ⟨b,0,none⟩))) 1=some (.pointer (some ⟨b,1,none⟩)):=by kernel_rfl
@[simp] theorem vz (b:Nat):ab P 65 (some (.pointer (some ⟨b,0,none⟩))) 2=some (.pointer (some ⟨b,2,none⟩)):=by kernel_rfl
@[simp] theorem Dd (b:Nat):ab P 69 (some (.pointer (some ⟨b,0,none⟩))) 0=some (.pointer (some ⟨b,0,none⟩)):=by kernel_rfl
@[simp] theorem De (b:Nat):ab P 73 (some (.pointer (some ⟨b,0,none⟩))) 0=some (.pointer (some ⟨b,0,none⟩)):=by kernel_rfl
@[simp] theorem Df (b:Nat):ab P 73 (some (.pointer (some ⟨b,0,none⟩))) 1=some (.pointer (some ⟨b,1,none⟩)):=by kernel_rfl
@[simp] theorem Dg (b:Nat):ab P 77 (some (.pointer (some ⟨b,0,none⟩))) 0=some (.pointer (some ⟨b,0,none⟩)):=by kernel_rfl
@[simp] theorem Dh (b:Nat):ab P 77 (some (.pointer (some ⟨b,0,none⟩))) 1=some (.pointer (some ⟨b,1,none⟩)):=by kernel_rfl
@[simp] theorem Di (b:Nat):ab P 77 (some (.pointer (some ⟨b,0,none⟩))) 2=some (.pointer (some ⟨b,2,none⟩)):=by kernel_rfl
@[simp] theorem Dj (b:Nat):ab P 77 (some (.pointer (some ⟨b,0,none⟩))) 3=some (.pointer (some ⟨b,3,none⟩)):=by kernel_rfl
@[simp] theorem Dk (b:Nat):ab P 95 (some (.pointer (some ⟨b,0,none⟩))) 0=some (.pointer (some ⟨b,0,none⟩)):=by kernel_rfl
@[simp] theorem Dl (b:Nat):ab P 95 (some (.pointer (some ⟨b,0,none⟩))) 1=some (.pointer (some ⟨b,1,none⟩)):=by kernel_rfl
@[simp] theorem zg (b:Nat):ab P 116 (some (.pointer (some ⟨b,0,none⟩))) 0=some (.pointer (some ⟨b,0,none⟩)):=by kernel_rfl
@[simp] theorem zh (b:Nat):ab P 116 (some (.pointer (some ⟨b,0,none⟩))) 1=some (.pointer (some ⟨b,1,none⟩)):=by kernel_rfl
@[simp] theorem zi (b:Nat):ab P 138 (some (.pointer (some ⟨b,0,none⟩))) 0=some (.pointer (some ⟨b,0,none⟩)):=by kernel_rfl
@[simp] theorem zj (b:Nat):ab P 138 (some (.pointer (some ⟨b,0,none⟩))) 1=some (.pointer (some ⟨b,1,none⟩)):=by kernel_rfl
@[simp] theorem zk (b:Nat):ab P 138 (some (.pointer (some ⟨b,0,none⟩))) 2=some (.pointer (some ⟨b,2,none⟩)):=by kernel_rfl
@[simp] theorem zl (b:Nat):ab P 194 (some (.pointer (some ⟨b,0,none⟩))) 0=some (.pointer (some ⟨b,0,none⟩)):=by kernel_rfl
@[simp] theorem zm (b:Nat):ab P 194 (some (.pointer (some ⟨b,0,none⟩))) 1=some (.pointer (some ⟨b,1,none⟩)):=by kernel_rfl
theorem Hj (b o:Nat):ab P 55 (some (.pointer (some ⟨b,o,none⟩))) 1=some (.pointer (some ⟨b,o+1,none⟩)):=Hg (by kernel_rfl)
@[simp] theorem Dm (c0 c1 c2 c3:Value):rdField P 31 (some (.agg ⟨[c0,c1,c2,c3]⟩)) 0=some c0:=by kernel_rfl
@[simp] theorem Dn (c0 c1 c2 c3:Value):rdField P 31 (some (.agg ⟨[c0,c1,c2,c3]⟩)) 1=some c1:=by kernel_rfl
@[simp] theorem Dp (c0 c1 c2 c3:Value):rdField P 31 (some (.agg ⟨[c0,c1,c2,c3]⟩)) 2=some c2:=by kernel_rfl
@[simp] theorem Dq (c0 c1 c2 c3:Value):rdField P 31 (some (.agg ⟨[c0,c1,c2,c3]⟩)) 3=some c3:=by kernel_rfl
@[simp] theorem TD (H:T OB) (u:Value):ae P H 2 (some (ak u))=tn (some false) (some 1) u:=by kernel_rfl
@[simp] theorem TE (H:T OB) (u:Value):ae P H 3 (some (ak u))=tn (some false) (some 1) u:=by kernel_rfl
@[simp] theorem TF (H:T OB) (u:Value):ae P H 4 (some (ak u))=tn (some false) (some 1) u:=by kernel_rfl
@[simp] theorem PN (H:T OB) (u:Value):ae P H 9 (some (ak u))=tn (some false) (some 1) u:=by kernel_rfl
@[simp] theorem NU (H:T OB) (u:Value):ae P H 24 (some (ak u))=tn (some false) (some 1) u:=by kernel_rfl
@[simp] theorem NV (H:T OB) (u:Value):ae P H 25 (some (ak u))=tn (some false) (some 1) u:=by kernel_rfl
@[simp] theorem NW (H:T OB) (u:Value):ae P H 29 (some (ak u))=tn (some false) (some 1) u:=by kernel_rfl
@[simp] theorem NX (H:T OB) (c0 c1 c2 c3:Value):ae P H 31 (some (ak (.agg ⟨[c0,c1,c2,c3]⟩)))=some (.agg ⟨[c0,c1,c2,c3]⟩):=by kernel_rfl
@[simp] theorem NY (H:T OB) (u:Value):ae P H 41 (some (ak u))=tn (some false) (some 1) u:=by kernel_rfl
@[simp] theorem NZ (H:T OB) (u:Value):ae P H 42 (some (ak u))=tn (some false) (some 1) u:=by kernel_rfl
@[simp] theorem Hk (H:T OB) (c0 c1 c2 c3 c4 c5:Value):ae P H 44 (some (ak (.agg ⟨[c0,c1,c2,c3,c4,c5]⟩)))=some (.agg ⟨[c0,c1,c2,c3,c4,c5]⟩):=by kernel_rfl
@[simp] theorem Hl (H:T OB) (c0 c1 c2 c3:Value):ae P H 47 (some (ak (.agg ⟨[c0,c1,c2,c3]⟩)))=some (.agg ⟨[c0,c1,c2,c3]⟩):=by kernel_rfl
@[simp] theorem N0 (H:T OB) (u:Value):ae P H 48 (some (ak u))=tn (some false) (some 1) u:=by kernel_rfl
@[simp] theorem N1 (H:T OB) (u:Value):ae P H 49 (some (ak u))=tn (some false) (some 1) u:=by kernel_rfl
@[simp] theorem N2 (H:T OB) (u:Value):ae P H 50 (some (ak u))=tn (some false) (some 1) u:=by kernel_rfl
@[simp] theorem Hm (H:T OB) (c0 c1 c2:Value):ae P H 52 (some (ak (.agg ⟨[c0,c1,c2]⟩)))=some (.agg ⟨[c0,c1,c2]⟩):=by kernel_rfl
@[simp] theorem N3 (H:T OB) (u:Value):ae P H 53 (some (ak u))=tn (some false) (some 1) u:=by kernel_rfl
@[simp] theorem Hn (H:T OB) (c0 c1:Value):ae P H 55 (some (ak (.agg ⟨[c0,c1]⟩)))=some (.agg ⟨[c0,c1]⟩):=by kernel_rfl
@[simp] theorem Ho (H:T OB) (c0 c1 c2 c3 c4 c5 c6 c7 c8 c9 c10 c11 c12 c13 c14 c15 c16:Value):ae P H 57 (some (ak (.agg ⟨[c0,c1,c2,c3,c4,c5,c6,c7,c8,c9,c10,c11,c12,c13,c14,c15,c16]⟩)))=some (.agg ⟨[c0,c1,c2,c3,c4,c5,c6,c7,c8,c9,c10,c11,c12,c13,c14,c15,c16]⟩):=by kernel_rfl
@[simp] theorem Hr (H:T OB) (c0 c1 c2 c3 c4 c5 c6 c7:Value):ae P H 65 (some (ak (.agg ⟨[c0,c1,c2,c3,c4,c5,c6,c7]⟩)))=some (.agg ⟨[c0,c1,c2,c3,c4,c5,c6,c7]⟩):=by kernel_rfl
@[simp] theorem N4 (H:T OB) (c0 c1 c2 c3 c4 c5 c6 c7 c8 c9 c10 c11 c12 c13 c14 c15 c16 c17 c18 c19 c20 c21:Value):ae P H 99 (some (ak (.agg ⟨[c0,c1,c2,c3,c4,c5,c6,c7,c8,c9,c10,c11,c12,c13,c14,c15,c16,c17,c18,c19,c20,c21]⟩)))=some (.agg ⟨[c0,c1,c2,c3,c4,c5,c6,c7,c8,c9,c10,c11,c12,c13,c14,c15,c16,c17,c18,c19,c20,c21]⟩):=by kernel_rfl
@[simp] theorem AT (H:T OB) (c0 c1 c2:Value):ae P H 138 (some (ak (.agg ⟨[c0,c1,c2]⟩)))=some (.agg ⟨[c0,c1,c2]⟩):=by kernel_rfl
@[simp] theorem Hs (H:T OB) (c0 c1 c2 c3 c4 c5 c6:Value):ae P H 182 (some (ak (.agg ⟨[c0,c1,c2,c3,c4,c5,c6]⟩)))=some (.agg ⟨[c0,c1,c2,c3,c4,c5,c6]⟩):=by kernel_rfl
theorem Dr {es:List Value}{i:Nat}{u:Value}(h:es[i]? = some u)(k:IntKind):ay P 24 (some (bn 17 es)) (some (.int k (i:Int)))=some (ak u):=dX (by kernel_rfl) h k
theorem Ds {es:List Value}{i:Nat}{u:Value}(h:es[i]? = some u)(k:IntKind):ay P 29 (some (bn 4 es)) (some (.int k (i:Int)))=some (ak u):=dX (by kernel_rfl) h k
theorem Dt {es:List Value}{i:Nat}{u:Value}(h:es[i]? = some u)(k:IntKind):ay P 41 (some (bn 6 es)) (some (.int k (i:Int)))=some (ak u):=dX (by kernel_rfl) h k
theorem o6 {es:List Value}{i:Nat}{u:Value}(h:es[i]? = some u)(k:IntKind):ay P 42 (some (bn 4 es)) (some (.int k (i:Int)))=some (ak u):=dX (by kernel_rfl) h k
theorem uC {es:List Value}{i:Nat}{u:Value}(h:es[i]? = some u)(k:IntKind):ay P 48 (some (bn 8 es)) (some (.int k (i:Int)))=some (ak u):=dX (by kernel_rfl) h k
theorem zn {es:List Value}{i:Nat}{u:Value}(h:es[i]? = some u)(k:IntKind):ay P 49 (some (bn 1 es)) (some (.int k (i:Int)))=some (ak u):=dX (by kernel_rfl) h k
theorem zo {es:List Value}{i:Nat}{u:Value}(h:es[i]? = some u)(k:IntKind):ay P 50 (some (bn 2 es)) (some (.int k (i:Int)))=some (ak u):=dX (by kernel_rfl) h k
theorem sf {es:List Value}{i:Nat}{u:Value}(h:es[i]? = some u)(k:IntKind):ay P 53 (some (bn 3 es)) (some (.int k (i:Int)))=some (ak u):=dX (by kernel_rfl) h k
theorem Ht {b off len c i:Nat}(h:i<len)(k:IntKind):ay P 49 (some (.slice (some ⟨b,off,none⟩) len c)) (some (.int k (i:Int)))=some (.pointer (some ⟨b,off+i*1,none⟩)):=jO (by kernel_rfl) h k
theorem gu:P.underlying 24=some (.slice 57):=by kernel_rfl
theorem kK:P.underlying 29=some (.slice 31):=by kernel_rfl
theorem fu:P.underlying 41=some (.slice 44):=by kernel_rfl
theorem er:P.underlying 42=some (.slice 47):=by kernel_rfl
theorem sh:P.underlying 48=some (.slice 65):=by kernel_rfl
theorem fY:P.underlying 49=some (.slice 9):=by kernel_rfl
theorem mm:P.underlying 50=some (.slice 55):=by kernel_rfl
theorem ez:P.underlying 53=some (.slice 138):=by kernel_rfl
theorem cN:P.underlying 120=some (.slice 5):=by kernel_rfl
@[simp] theorem N5 (s:ByteArray) (ty:TypeId):aN P #[9] ty (some [.string s])=some (.int .i64 (s.size:Int)):=aK s (by kernel_rfl)
@[simp] theorem Hu (s:Nat) (es:List Value) (ty:TypeId):aN P #[24] ty (some [bn s es])=some (.int .i64 (es.length:Int)):=ek s es (by kernel_rfl)
@[simp] theorem Du (ty:TypeId) (a:Addr) (n c:Nat):aN P #[24] ty (some [.slice (some a) n c])=some (.int .i64 (n:Int)):=dW (by kernel_rfl)
@[simp] theorem Dv (ty:TypeId):aN P #[24] ty (some [.slice none 0 0])=some (.int .i64 0):=by kernel_rfl
@[simp] theorem Hv (s:Nat) (es:List Value) (ty:TypeId):aN P #[29] ty (some [bn s es])=some (.int .i64 (es.length:Int)):=ek s es (by kernel_rfl)
@[simp] theorem Dw (ty:TypeId) (a:Addr) (n c:Nat):aN P #[29] ty (some [.slice (some a) n c])=some (.int .i64 (n:Int)):=dW (by kernel_rfl)
@[simp] theorem Dx (ty:TypeId):aN P #[29] ty (some [.slice none 0 0])=some (.int .i64 0):=by kernel_rfl
@[simp] theorem Hw (s:Nat) (es:List Value) (ty:TypeId):aN P #[41] ty (some [bn s es])=some (.int .i64 (es.length:Int)):=ek s es (by kernel_rfl)
@[simp] theorem Dy (ty:TypeId) (a:Addr) (n c:Nat):aN P #[41] ty (some [.slice (some a) n c])=some (.int .i64 (n:Int)):=dW (by kernel_rfl)
@[simp] theorem Dz (ty:TypeId):aN P #[41] ty (some [.slice none 0 0])=some (.int .i64 0):=by kernel_rfl
@[simp] theorem Hx (s:Nat) (es:List Value) (ty:TypeId):aN P #[42] ty (some [bn s es])=some (.int .i64 (es.length:Int)):=ek s es (by kernel_rfl)
@[simp] theorem DA (ty:TypeId) (a:Addr) (n c:Nat):aN P #[42] ty (some [.slice (some a) n c])=some (.int .i64 (n:Int)):=dW (by kernel_rfl)
@[simp] theorem DB (ty:TypeId):aN P #[42] ty (some [.slice none 0 0])=some (.int .i64 0):=by kernel_rfl
@[simp] theorem vA (s:Nat) (es:List Value) (ty:TypeId):aN P #[48] ty (some [bn s es])=some (.int .i64 (es.length:Int)):=ek s es (by kernel_rfl)
@[simp] theorem DC (ty:TypeId) (a:Addr) (n c:Nat):aN P #[48] ty (some [.slice (some a) n c])=some (.int .i64 (n:Int)):=dW (by kernel_rfl)
@[simp] theorem vB (ty:TypeId):aN P #[48] ty (some [.slice none 0 0])=some (.int .i64 0):=by kernel_rfl
@[simp] theorem Hy (s:Nat) (es:List Value) (ty:TypeId):aN P #[49] ty (some [bn s es])=some (.int .i64 (es.length:Int)):=ek s es (by kernel_rfl)
@[simp] theorem DD (ty:TypeId) (a:Addr) (n c:Nat):aN P #[49] ty (some [.slice (some a) n c])=some (.int .i64 (n:Int)):=dW (by kernel_rfl)
@[simp] theorem DE (ty:TypeId):aN P #[49] ty (some [.slice none 0 0])=some (.int .i64 0):=by kernel_rfl
@[simp] theorem HA (s:Nat) (es:List Value) (ty:TypeId):aN P #[50] ty (some [bn s es])=some (.int .i64 (es.length:Int)):=ek s es (by kernel_rfl)
@[simp] theorem DF (ty:TypeId) (a:Addr) (n c:Nat):aN P #[50] ty (some [.slice (some a) n c])=some (.int .i64 (n:Int)):=dW (by kernel_rfl)
@[simp] theorem DG (ty:TypeId):aN P #[50] ty (some [.slice none 0 0])=some (.int .i64 0):=by kernel_rfl
@[simp] theorem HB (s:Nat) (es:List Value) (ty:TypeId):aN P #[53] ty (some [bn s es])=some (.int .i64 (es.length:Int)):=ek s es (by kernel_rfl)
@[simp] theorem DH (ty:TypeId) (a:Addr) (n c:Nat):aN P #[53] ty (some [.slice (some a) n c])=some (.int .i64 (n:Int)):=dW (by kernel_rfl)
@[simp] theorem DI (ty:TypeId):aN P #[53] ty (some [.slice none 0 0])=some (.int .i64 0):=by kernel_rfl
@[simp] theorem DJ (s:Nat) (es:List Value) (ty:TypeId):aN P #[120] ty (some [bn s es])=some (.int .i64 (es.length:Int)):=ek s es (by kernel_rfl)
@[simp] theorem zp (ty:TypeId) (a:Addr) (n c:Nat):aN P #[120] ty (some [.slice (some a) n c])=some (.int .i64 (n:Int)):=dW (by kernel_rfl)
@[simp] theorem zq (ty:TypeId):aN P #[120] ty (some [.slice none 0 0])=some (.int .i64 0):=by kernel_rfl
theorem PO:bX P 3=some [(.int .i64 0)]:=by kernel_rfl
theorem K5:bX P 24=some [(.slice none 0 0)]:=by kernel_rfl
theorem K6:bX P 25=some [(.int .i64 0)]:=by kernel_rfl
theorem cB:bX P 31=some [(.int .i64 0),(.string ⟨⟨[]⟩⟩),(.int .i64 0),(.int .i64 0)]:=by kernel_rfl
theorem bc:bX P 44=some [(.int .i64 0),(.int .i64 0),(.string ⟨⟨[]⟩⟩),(.slice none 0 0),(.slice none 0 0),(.slice none 0 0)]:=by kernel_rfl
theorem cS:bX P 47=some [(.int .i64 0),(.int .i64 0),(.string ⟨⟨[]⟩⟩),(.slice none 0 0)]:=by kernel_rfl
theorem pN:bX P 52=some [(.slice none 0 0),(.string ⟨⟨[]⟩⟩),(.slice none 0 0)]:=by kernel_rfl
theorem fZ:bX P 55=some [(.string ⟨⟨[]⟩⟩),(.slice none 0 0)]:=by kernel_rfl
theorem cW:bX P 57=some [(.int .i64 0),(.int .i64 0),(.int .i64 0),(.string ⟨⟨[]⟩⟩),(.slice none 0 0),(.int .i64 0),(.int .i64 0),(.string ⟨⟨[]⟩⟩),(.slice none 0 0),(.slice none 0 0),(.slice none 0 0),(.slice none 0 0),(.slice none 0 0),(.string ⟨⟨[]⟩⟩),(.slice none 0 0),(.string ⟨⟨[]⟩⟩),(.slice none 0 0)]:=by kernel_rfl
theorem eZ:bX P 65=some [(.string ⟨⟨[]⟩⟩),(.slice none 0 0),(.int .i64 0),(.int .i64 0),(.string ⟨⟨[]⟩⟩),(.slice none 0 0),(.slice none 0 0),(.slice none 0 0)]:=by kernel_rfl
theorem K7:bX P 69=some [(.int .i64 0)]:=by kernel_rfl
theorem cv:bX P 138=some [(.int .i64 0),(.string ⟨⟨[]⟩⟩),(.slice none 0 0)]:=by kernel_rfl
theorem HC:bX P 168=some [(.int .u8 0),(.int .u8 0),(.int .u8 0),(.int .u8 0),(.int .u8 0),(.int .u8 0),(.int .u8 0),(.int .u8 0),(.int .u8 0),(.int .u8 0),(.int .u8 0),(.int .u8 0),(.int .u8 0),(.int .u8 0),(.int .u8 0),(.int .u8 0),(.int .u8 0),(.int .u8 0),(.int .u8 0),(.int .u8 0)]:=by kernel_rfl
theorem HD:bX P 194=some [(.string ⟨⟨[]⟩⟩),(.int .i64 0)]:=by kernel_rfl
theorem m_:dC P 3=some false:=by kernel_rfl
theorem TG:dC P 4=some false:=by kernel_rfl
theorem TH:dC P 5=some false:=by kernel_rfl
theorem lX:dC P 9=some false:=by kernel_rfl
theorem kL:dC P 24=some false:=by kernel_rfl
theorem vC:dC P 25=some false:=by kernel_rfl
theorem HE:dC P 29=some false:=by kernel_rfl
theorem si:dC P 31=some true:=by kernel_rfl
theorem ik:dC P 41=some false:=by kernel_rfl
theorem gv:dC P 42=some false:=by kernel_rfl
theorem bZ:dC P 44=some true:=by kernel_rfl
theorem cG:dC P 47=some true:=by kernel_rfl
theorem sj:dC P 48=some false:=by kernel_rfl
theorem gz:dC P 49=some false:=by kernel_rfl
theorem vD:dC P 50=some false:=by kernel_rfl
theorem AU:dC P 52=some true:=by kernel_rfl
theorem vE:dC P 53=some false:=by kernel_rfl
theorem mn:dC P 55=some true:=by kernel_rfl
theorem fw:dC P 57=some true:=by kernel_rfl
theorem vF:dC P 65=some true:=by kernel_rfl
theorem PQ:dC P 99=some true:=by kernel_rfl
theorem ft:dC P 138=some true:=by kernel_rfl
theorem TJ:bq P 2=some 1:=by kernel_rfl
theorem jk:bq P 3=some 1:=by kernel_rfl
theorem V2:bq P 4=some 1:=by kernel_rfl
theorem gS:bq P 5=some 1:=by kernel_rfl
theorem gT:bq P 9=some 1:=by kernel_rfl
theorem sk:bq P 24=some 1:=by kernel_rfl
theorem DK:bq P 25=some 1:=by kernel_rfl
theorem dy:bq P 31=some 4:=by kernel_rfl
theorem sn:bq P 41=some 1:=by kernel_rfl
theorem o7:bq P 42=some 1:=by kernel_rfl
theorem bG:bq P 44=some 6:=by kernel_rfl
theorem cf:bq P 47=some 4:=by kernel_rfl
theorem N6:bq P 48=some 1:=by kernel_rfl
theorem uD:bq P 49=some 1:=by kernel_rfl
theorem HF:bq P 50=some 1:=by kernel_rfl
theorem zr:bq P 52=some 3:=by kernel_rfl
theorem HG:bq P 53=some 1:=by kernel_rfl
theorem il:bq P 55=some 2:=by kernel_rfl
theorem dz:bq P 57=some 17:=by kernel_rfl
theorem jl:bq P 65=some 8:=by kernel_rfl
theorem TK:bq P 69=some 1:=by kernel_rfl
theorem TL:bq P 99=some 22:=by kernel_rfl
theorem bR:bq P 138=some 3:=by kernel_rfl
theorem PU:bq P 194=some 2:=by kernel_rfl
@[simp] theorem HH (H:T OB) (q a b:Bool):ai P H .eql 4 q (some (.bool a)) (some (.bool b))=some (.bool (a == b)):=by cases q<;>cases a<;>cases b<;>kernel_rfl
theorem cT {α:Type}(a b:α):(bif true then a else b)=a:=rfl
theorem cF {α:Type}(a b:α):(bif false then a else b)=b:=rfl
theorem eS {α:Type}(a:α):(a=a)=True:=eq_self a
theorem lN {α:Type}:([]:List α).length=0:=rfl
theorem af:type_of% (And.intro @cT (And.intro @cF (And.intro @eS (And.intro @lN (And.intro @o4 (And.intro @iJ (And.intro @m6 (And.intro @o5 (And.intro @rZ (And.intro @m7 (And.intro @aT (And.intro @Cf (And.intro @Ch (And.intro @y7 (And.intro @Ci (And.intro @He (And.intro @y8 (And.intro @uq (And.intro @ur (And.intro @uu (And.intro @uv (And.intro @uw (And.intro @ux (And.intro @uy (And.intro @uz (And.intro @uA (And.intro @r8 (And.intro @r9 (And.intro @vp (And.intro @r_ (And.intro @mI (And.intro @mJ (And.intro @Bool.not_true (And.intro @Bool.not_false (And.intro @Bool.not_not (And.intro @y9 (And.intro @uB (And.intro @se (And.intro @Hh (And.intro @bj (And.intro @Int.cast_ofNat_Int (And.intro @decide_true (And.intro @decide_false (And.intro @Bool.and_self (And.intro @Cj (And.intro @Ck (And.intro @Cl (And.intro @Cm (And.intro @Cn (And.intro @Co (And.intro @Cp (And.intro @Cq (And.intro @Cr (And.intro @Cs (And.intro @Ct (And.intro @Cu (And.intro @Cv (And.intro @Cw (And.intro @Cx (And.intro @Cy (And.intro @Cz (And.intro @CA (And.intro @CB (And.intro @CC (And.intro @CD (And.intro @CE (And.intro @CF (And.intro @CG (And.intro @CH (And.intro @CI (And.intro @CJ (And.intro @CK (And.intro @CL (And.intro @CM (And.intro @CO (And.intro @CP (And.intro @CQ (And.intro @CR (And.intro @CS (And.intro @CT (And.intro @CU (And.intro @y_ (And.intro @za (And.intro @zb (And.intro @zc (And.intro @zd (And.intro @ze (And.intro @zf (And.intro @CV (And.intro @CW (And.intro @CX (And.intro @CY (And.intro @CZ (And.intro @C0 (And.intro @C1 (And.intro @C2 (And.intro @C3 (And.intro @C4 (And.intro @C5 (And.intro @C6 (And.intro @C7 (And.intro @C8 (And.intro @C9 (And.intro @C_ (And.intro @Da (And.intro @Db (And.intro @Dc (And.intro @vq (And.intro @vr (And.intro @vt (And.intro @m9 (And.intro @vu (And.intro @vw (And.intro @vx (And.intro @vy (And.intro @vz (And.intro @Dd (And.intro @De (And.intro @Df (And.intro @Dg (And.intro @Dh (And.intro @Di (And.intro @Dj (And.intro @Dk (And.intro @Dl (And.intro @zg (And.intro @zh (And.intro @zi (And.intro @zj (And.intro @zk (And.intro @zl (And.intro @zm (And.intro @Dm (And.intro @Dn (And.intro @Dp (And.intro @Dq (And.intro @TD (And.intro @TE (And.intro @TF (And.intro @PN (And.intro @NU (And.intro @NV (And.intro @NW (And.intro @NX (And.intro @NY (And.intro @NZ (And.intro @Hk (And.intro @Hl (And.intro @N0 (And.intro @N1 (And.intro @N2 (And.intro @Hm (And.intro @N3 (And.intro @Hn (And.intro @Ho (And.intro @Hr (And.intro @N4 (And.intro @AT (And.intro @Hs (And.intro @N5 (And.intro @Hu (And.intro @Du (And.intro @Dv (And.intro @Hv (And.intro @Dw (And.intro @Dx (And.intro @Hw (And.intro @Dy (And.intro @Dz (And.intro @Hx (And.intro @DA (And.intro @DB (And.intro @vA (And.intro @DC (And.intro @vB (And.intro @Hy (And.intro @DD (And.intro @DE (And.intro @HA (And.intro @DF (And.intro @DG (And.intro @HB (And.intro @DH (And.intro @DI (And.intro @DJ (And.intro @zp (And.intro @zq @HH))))))))))))))))))))))))))))))))))))))))))))))))))))))))))))))))))))))))))))))))))))))))))))))))))))))))))))))))))))))))))))))))))))))))))))))))))))))))))))))))))))))))))))))))))))))))))):=And.intro @cT (And.intro @cF (And.intro @eS (And.intro @lN (And.intro @o4 (And.intro @iJ (And.intro @m6 (And.intro @o5 (And.intro @rZ (And.intro @m7 (And.intro @aT (And.intro @Cf (And.intro @Ch (And.intro @y7 (And.intro @Ci (And.intro @He (And.intro @y8 (And.intro @uq (And.intro @ur (And.intro @uu (And.intro @uv (And.intro @uw (And.intro @ux (And.intro @uy (And.intro @uz (And.intro @uA (And.intro @r8 (And.intro @r9 (And.intro @vp (And.intro @r_ (And.intro @mI (And.intro @mJ (And.intro @Bool.not_true (And.intro @Bool.not_false (And.intro @Bool.not_not (And.intro @y9 (And.intro @uB (And.intro @se (And.intro @Hh (And.intro @bj (And.intro @Int.cast_ofNat_Int (And.intro @decide_true (And.intro @decide_false (And.intro @Bool.and_self (And.intro @Cj (And.intro @Ck (And.intro @Cl (And.intro @Cm (And.intro @Cn (And.intro @Co (And.intro @Cp (And.intro @Cq (And.intro @Cr (And.intro @Cs (And.intro @Ct (And.intro @Cu (And.intro @Cv (And.intro @Cw (And.intro @Cx (And.intro @Cy (And.intro @Cz (And.intro @CA (And.intro @CB (And.intro @CC (And.intro @CD (And.intro @CE (And.intro @CF (And.intro @CG (And.intro @CH (And.intro @CI (And.intro @CJ (And.intro @CK (And.intro @CL (And.intro @CM (And.intro @CO (And.intro @CP (And.intro @CQ (And.intro @CR (And.intro @CS (And.intro @CT (And.intro @CU (And.intro @y_ (And.intro @za (And.intro @zb (And.intro @zc (And.intro @zd (And.intro @ze (And.intro @zf (And.intro @CV (And.intro @CW (And.intro @CX (And.intro @CY (And.intro @CZ (And.intro @C0 (And.intro @C1 (And.intro @C2 (And.intro @C3 (And.intro @C4 (And.intro @C5 (And.intro @C6 (And.intro @C7 (And.intro @C8 (And.intro @C9 (And.intro @C_ (And.intro @Da (And.intro @Db (And.intro @Dc (And.intro @vq (And.intro @vr (And.intro @vt (And.intro @m9 (And.intro @vu (And.intro @vw (And.intro @vx (And.intro @vy (And.intro @vz (And.intro @Dd (And.intro @De (And.intro @Df (And.intro @Dg (And.intro @Dh (And.intro @Di (And.intro @Dj (And.intro @Dk (And.intro @Dl (And.intro @zg (And.intro @zh (And.intro @zi (And.intro @zj (And.intro @zk (And.intro @zl (And.intro @zm (And.intro @Dm (And.intro @Dn (And.intro @Dp (And.intro @Dq (And.intro @TD (And.intro @TE (And.intro @TF (And.intro @PN (And.intro @NU (And.intro @NV (And.intro @NW (And.intro @NX (And.intro @NY (And.intro @NZ (And.intro @Hk (And.intro @Hl (And.intro @N0 (And.intro @N1 (And.intro @N2 (And.intro @Hm (And.intro @N3 (And.intro @Hn (And.intro @Ho (And.intro @Hr (And.intro @N4 (And.intro @AT (And.intro @Hs (And.intro @N5 (And.intro @Hu (And.intro @Du (And.intro @Dv (And.intro @Hv (And.intro @Dw (And.intro @Dx (And.intro @Hw (And.intro @Dy (And.intro @Dz (And.intro @Hx (And.intro @DA (And.intro @DB (And.intro @vA (And.intro @DC (And.intro @vB (And.intro @Hy (And.intro @DD (And.intro @DE (And.intro @HA (And.intro @DF (And.intro @DG (And.intro @HB (And.intro @DH (And.intro @DI (And.intro @DJ (And.intro @zp (And.intro @zq @HH))))))))))))))))))))))))))))))))))))))))))))))))))))))))))))))))))))))))))))))))))))))))))))))))))))))))))))))))))))))))))))))))))))))))))))))))))))))))))))))))))))))))))))))))))))))))))
end
end Go.Proofs.YthjhonhhbddhkaaGreatDoor
