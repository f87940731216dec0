/- Texts of this claim, side by side. -/
import Derived.Test.YthjhonhhbddhkaaDoorG2
import Derived.Laws.Strings
import Derived.Test.YthjhonhhbddhkaaDoorProg
import Derived.KernelRfl
namespace Go.Ev
open Go.RowKit (Below)
noncomputable section
set_option maxRecDepth 100000
set_option linter.unusedVariables false
set_option linter.unusedSimpArgs false
section
variable {P:Program}{W w w' w1:World}{f fn:FuncId}{cs cs0:List Frame}{r r1:Rt}{fr fr' fr1:Frame}{φ φ' φ1:bO}{H H' H1:T OB}{nx nx' aI nt lo hi:Nat}{tm:T Value}{tmps:Array Value}{ops:Array Oper}
 {todo k:List Item} {c:Cg} {ds:List Deferred} {kd:Bool} {O:bQ->Option Rt} {pl:hY}
theorem ch.N3 {rc:Bool}{fr1:Frame}(hm:fr.mode= .run)(hs:step P (lone fr (dj rc cs0) w)= .next (lone fr1 (dj rc cs0) w))(h:ch P W kd fn lo cs0 rc φ H r fr w):ch P W kd fn lo cs0 rc φ H r fr1 w:=by
 obtain⟨φ',w',frl,⟨n,hn⟩,h2,h3,h4,h5,h6,h7,h8⟩:=h;refine⟨φ',w',frl,?_,h2,h3,h4,h5,h6,h7,h8⟩;cases n with
 | zero=>
   exfalso;have hn:Stepped.next (lone fr (dj rc cs0) w)= .next (lone frl (dj r.rc cs0) w'):=hn
   have e:fr.mode=frl.mode:=by
    injection hn with hn
    simp only[lone]at hn
    simp_all
   rw[hm]at e;cases hr:r.o with
   | ret v=>rw[hr]at h8;obtain⟨v',_,hg⟩:=h8;rw[hg.1]at e;cases e
   | eW v=>rw[hr]at h8;obtain⟨v',_,hg⟩:=h8;rw[hg.1]at e;cases e
 | succ n=>
   refine⟨n,?_⟩;simp only[runN,hs]at hn;exact hn
theorem lV (t:Nat)(v:Value):∀l:List Nat,(qd tm l).get (bits t)=some v->tm.get (bits t)=some v
 | [],h=>by rw[show qd tm []= .leaf from rfl,gI]at h;cases h
 | s::l,h=>by
   have h:(af (tm.get (bits s)) (λv=>cm (bits s) (qd tm l) (some v) id) (qd tm l)).get (bits t)=some v:=h;cases hs:tm.get (bits s)with
   | none=>rw[hs]at h;exact lV t v l h
   | some u=>
     have h2:(set (qd tm l) (bits s) (some u)).get (bits t)=some v:=by
      rw[hs,aw,aA]at h;exact h
     clear h;rw[get_at]at h2;split at h2
     . rename_i q;subst q;exact hs.trans h2
     . exact lV t v l h2
theorem A2 {key:Nat}{t:Nat}{v:Value}(h:(tO pl fn key tm).get (bits t)=some v):tm.get (bits t)=some v:=by
 unfold tO at h;split at h
 . exact h
 . cases hl:BI fn key _ with
   | none=>rw[hl]at h;exact h
   | some l=>rw[hl]at h;exact lV t v l h
theorem kX.mask {key:Nat}(h:kX P W c (tO pl fn key tm) todo H nx r):kX P W c tm todo H nx r:=λφ w lo tmps ds cs0 x htr=>
 h φ w lo tmps ds cs0 x λt v hv=>htr t v (A2 hv)
theorem kY (hO:iM P W O)(todo:List Item):xH P W O (tP pl todo) todo:=λc tm H nx r h=>
 kX.mask (show kX P W c (tO pl c.fn (IT todo) tm) todo H nx r from hO _ _ (Cb h))
theorem xJ (todo:List Item):xH P W O vE todo:=λc tm H nx r h=>(ff h).elim
def Hk (P:Program)(W:World)(O:bQ->Option Rt)(E:List (Nat×Kt))(k:List Item):Prop:=∀id,nA id E=vE\/∃k',exitTo id k=some k'/\xH P W O (nA id E) k'
theorem Hk.skip {E:List (Nat×Kt)}{it:Item}(h:Hk P W O E k)(hit:∀id,exitTo id (it::k)=exitTo id k):Hk P W O E (it::k):=λj=>(h j).imp (λq=>q) λ⟨k',a,b⟩=>⟨k',(hit j).trans a,b⟩
theorem Hk.block {E:List (Nat×Kt)}{K:Kt}{id:Nat}(h:Hk P W O E k)(hK:xH P W O K k):Hk P W O ((id,K)::E) (.inBlock id::k):=λj=>by
 have e:nA j ((id,K)::E)=bif Nat.beq id j then K else nA j E:=rfl;have e2:exitTo j (.inBlock id::k)=if id == j then some k else exitTo j k:=rfl;rw[e,e2];cases hb:Nat.beq id j with
 | true=>
   have:=beq_eq hb;subst this;exact .inr ⟨k,by simp,hK⟩
 | false=>
   have hne:(id == j)=false:=by
    cases hq:id == j with
    | false=>rfl
    | true=>have:id=j:=by simpa using hq
            subst this;rw[Nat.beq_refl]at hb;cases hb
   rw[hne];exact h j
theorem Fj (hO:iM P W O){K:Kt}(hK:xH P W O K k)(id:Nat)(ops:Array Oper)(draw:Bool):xH P W O (IQ P pl ops draw K) (.code (.region id ops draw)::k):=λc tm H nx r h=>by
 unfold IQ at h;rcases dq h with⟨hd,h1⟩ | ⟨hd,h1⟩
 . rcases dq h1 with⟨hm,h2⟩ | ⟨_,h2⟩
   . obtain⟨p,hp,h3⟩:=aZ h2;subst hd;intro φ w lo tmps ds cs0 x htr;have hs:=step_region_draw (P:=P) (b:=cA (bE c ds) #[] []) (a:=⟨tmps,ds⟩) (k:=k) (cs:=dj c.rc cs0) (w:=w) (ops:=ops) (id:=id);rw[hm]at hs;have x':Fx P W lo cs0 c φ H nx tmps ds w.drew:=⟨x.hH.drew,x.bt,x.jW,x.jA,x.rR,x.nS⟩;obtain⟨h1,h2⟩:=dZ.start (P:=P) (φ:=φ) (H:=H) hp (w.tape w.drawn (.order (cA (bE c ds) #[] []).fn id)) htr lo nx;exact ch.steps (.one hs) φ.le_refl (λ_ _ q=>⟨q,rfl⟩) (n_ hO hK p tm H nx φ tmps _ _ _ _ _ h3 x' h1 h2)
   . exact(ff h2).elim
 . subst hd;exact(jg hO hK _ c tm H nx r h1).step1 λds tmps cs w=> .one (step_region (b:=cA (bE c ds) #[] []) (a:=⟨tmps,ds⟩))
theorem oc (hO:iM P W O)(cd:Code):∀(k:List Item) (K:Kt) (E:List (Nat×Kt)),xH P W O K k->Hk P W O E k->xH P W O (qe P pl cd k K E) (.code cd::k):=by
 induction cd with
 | skip=>exact λk K E hK hE c tm H nx r h=>(hK c tm H nx r h).step1 λds tmps cs w=> .one (step_skip (b:=cA (bE c ds) #[] []) (a:=⟨tmps,ds⟩))
 | label l=>exact λk K E hK hE c tm H nx r h=>(hK c tm H nx r h).step1 λds tmps cs w=> .one (step_label (b:=cA (bE c ds) #[] []) (a:=⟨tmps,ds⟩))
 | ret=>exact λk K E hK hE=>lU hO (.inr ⟨k,rfl⟩)
 | region id ops draw=>exact λk K E hK hE=>Fj hO hK id ops draw
 | seq a b iha ihb=>
   intro k K E hK hE c tm H nx r h;refine kX.step1 (λds tmps cs w=> .one (step_seq (b:=cA (bE c ds) #[] []) (a:=⟨tmps,ds⟩))) (iha (.code b::k) _ E ?_ (hE.skip λ_=>rfl) c tm H nx r h);cases hq:Lp pl a b with
   | true=>exact kY hO _
   | false=>exact ihb k K E hK hE
 | cond q a b iha ihb=>
   intro k K E hK hE c tm H nx r h φ w lo tmps ds cs0 x htr;have h:(BJ (aS P tm q) (qe P pl a k K E c tm H nx) (qe P pl b k K E c tm H nx)).run O=some r:=h;unfold BJ at h;split at h
   . rename_i t hx;have he:Act.eval ⟨tmps,ds⟩ q= .bool t:=by
      rw[ui];exact((rP x.hH.gl htr (l:=[q]) Cf) q (by simp) _ hx).al rfl
     have hs:=step_cond (P:=P) (b:=cA (bE c ds) #[] []) (a:=⟨tmps,ds⟩) (k:=k) (cs:=dj c.rc cs0) (w:=w) (x:=a) (y:=b) he;rcases dq h with⟨rfl,h⟩ | ⟨rfl,h⟩
     . exact(iha k K E hK hE c tm H nx r h φ w lo tmps ds cs0 x htr).step1 (.one hs)
     . exact(ihb k K E hK hE c tm H nx r h φ w lo tmps ds cs0 x htr).step1 (.one hs)
   . exact(ff h).elim
 | block id body ih=>
   intro k K E hK hE c tm H nx r h;refine kX.step1 (λds tmps cs w=> .one (step_block (b:=cA (bE c ds) #[] []) (a:=⟨tmps,ds⟩))) (ih (.inBlock id::k) K ((id,K)::E) (λc tm H nx r h=> ?_) (hE.block hK) c tm H nx r h);exact(hK c tm H nx r h).step1 λds tmps cs w=> .one (step_inBlock (b:=cA (bE c ds) #[] []) (a:=⟨tmps,ds⟩))
 | loop body ih=>
   intro k K E hK hE c tm H nx r h φ w lo tmps ds cs0 x htr;have h1:=kY (pl:=pl) hO (.inLoop body::k) c tm H nx r h φ w lo tmps ds cs0 x htr;exact(h1.N3 rfl (step_inLoop (b:=cA (bE c ds) #[] []) (a:=⟨tmps,ds⟩))).step1 (.one (step_loop (b:=cA (bE c ds) #[] []) (a:=⟨tmps,ds⟩)))
 | scope body ih=>
   intro k K E hK hE c tm H nx r h;refine kX.step1 (λds tmps cs w=> .one (step_scope (b:=cA (bE c ds) #[] []) (a:=⟨tmps,ds⟩))) (ih (.inScope body::k) K E (λc tm H nx r h=> ?_) (hE.skip λ_=>rfl) c tm H nx r h);exact(hK c tm H nx r h).step1 λds tmps cs w=> .one (step_inScope (b:=cA (bE c ds) #[] []) (a:=⟨tmps,ds⟩))
 | exit id=>
   intro k K E hK hE c tm H nx r h;have h:(nA id E c tm H nx).run O=some r:=h;rcases hE id with q | ⟨k',hk',hK'⟩
   . rw[q]at h;exact(ff h).elim
   . exact(hK' c tm H nx r h).step1 λds tmps cs w=> .one (step_exit (b:=cA (bE c ds) #[] []) (a:=⟨tmps,ds⟩) hk')
 | _=>exact λk K E hK hE=>xJ _
theorem wb (hO:iM P W O):∀todo:List Item,xH P W O (NJ P pl todo).1 todo/\Hk P W O (NJ P pl todo).2 todo
 | []=>⟨lU hO (.inl rfl),λid=> .inl rfl⟩
 | it::k=>by
   obtain⟨h1,h2⟩:=wb hO k;cases it with
   | code cd=>exact⟨oc hO cd k _ _ h1 h2,h2.skip λ_=>rfl⟩
   | inBlock id=>exact⟨λc tm H nx r h=>(h1 c tm H nx r h).step1 λds tmps cs w=> .one (step_inBlock (b:=cA (bE c ds) #[] []) (a:=⟨tmps,ds⟩)),h2.block h1⟩
   | inScope b=>exact⟨λc tm H nx r h=>(h1 c tm H nx r h).step1 λds tmps cs w=> .one (step_inScope (b:=cA (bE c ds) #[] []) (a:=⟨tmps,ds⟩)),h2.skip λ_=>rfl⟩
   | inLoop body=>exact⟨kY hO _,h2.skip λ_=>rfl⟩
   | _=>exact⟨xJ _,λid=> .inl rfl⟩
theorem Fk (hO:iM P W O)(todo:List Item):xH P W O (IU P pl todo) todo:=by
 unfold IU;split
 . rename_i body k;intro c tm H nx r h;exact kX.step1 (λds tmps cs w=> .one (step_inLoop (b:=cA (bE c ds) #[] []) (a:=⟨tmps,ds⟩))) (oc hO body _ _ _ (kY hO _) ((wb hO k).2.skip λ_=>rfl) c tm H nx r h)
 . exact(wb hO todo).1
theorem Ja (hO:iM P W O):∀q r,(aV P pl q).run O=some r->Ce P W q r
 | .at c tm todo H nx,r,h=>Fk hO todo c tm H nx r h
 | .call f args kd rp H nx,r,h=>λφ w args' cs0 hH bt hl nS=>by
   obtain⟨fd,hf,h⟩:=aZ (show(af P.funcs[f]? (λfn=>af fn.body (λcd=>N1 P pl f kd rp fn cd args H nx) .bad) .bad).run O=some r from h);obtain⟨cd,hb,h⟩:=aZ h;unfold N1 at h;obtain⟨hn,h⟩:=jC h;have hn:=bU hn;obtain⟨φ1,us,H1,aI,h,hl1,hz⟩:=kh fd.params _ _ _ φ H nx hH bt hl h;rw[cc]at h;have hlen:=hl.len;have hlen1:=hl1.len;have e:Frame.enter P f args'.toArray (kindOf kd)=cA (bE ⟨f,fd.ntmps,kd,[],rp,false⟩ []) (args'.toArray++Array.replicate (fd.ntmps-args'.toArray.size) undef) [.code cd]:=by
    simp[Frame.enter,hf,hb,cA,bE]
   rw[e];have hx:Fx P W nx cs0 ⟨f,fd.ntmps,kd,[],rp,false⟩ φ1 H1 aI (args'.toArray++Array.replicate (fd.ntmps-args'.toArray.size) undef) [] w:=⟨hz.2.1,hz.2.2.1,hz.2.2.2.2,by
    show(args'.toArray++Array.replicate (fd.ntmps-args'.toArray.size) undef).size=fd.ntmps;simp only[Array.size_append,List.size_toArray,Array.size_replicate];omega,.nil,nS.mono hz.1⟩
   refine hz.fin (oc hO cd [] _ [] (lU hO (.inl rfl)) (λid=> .inl rfl) _ _ _ _ r h φ1 w nx _ [] cs0 hx ?_);intro t v hv;rw[cB]at hv;split at hv
   . rename_i ht;rw[Nat.sub_zero]at hv;obtain⟨v',h1,h2⟩:=hl1.get hv;refine .inr ⟨v',?_,h2⟩;have:t<args'.toArray.size:=by simp;omega
     rw[Array.getElem?_append_left this];simpa using h1
   . rw[gI]at hv;cases hv
def uz (P:Program)(W:World)(X:Ext):Prop:=∀f args v,X f args=some v->(∀x∈args,flat x=true)/\flat v=true/\
 ∀w,Below W.heap.size W w->Calls P f args.toArray w λe w'=>e= .returned v/\Below w.heap.size w w'
theorem LR.al {l l':List Value}(h:LR φ l l')(hf:∀x∈l,flat x=true):l'=l:=by
 refine List.ext_getElem? λi=> ?_
 by_cases hi:i<l.length
 . have h5:=List.getElem?_eq_getElem hi;have h6:=List.getElem?_eq_getElem (h.len ▸ hi:i<l'.length);rw[h5,h6,(h.at_ i _ _ h5 h6).al (hf _ (List.getElem_mem hi))]
 . rw[List.getElem?_eq_none (by have:=h.len;omega),List.getElem?_eq_none (by omega)]
theorem Jb {X:Ext}(hX:uz P W X){f:FuncId}{args:List Value}{v:Value}(h:X f args=some v)(rp:Option Value)(H:T OB)(nx:Nat):Ce P W (.call f args false rp H nx) ⟨.ret v,false,H,nx⟩:=λφ w args' cs0 hH bt hl _=>by
 obtain⟨h1,h2,h3⟩:=hX f args v h;have:=hl.al h1;subst this;obtain⟨e,w',fr,⟨he,hb⟩,hc,hfn,hlv⟩:=h3 w hH.below cs0;subst he;obtain⟨a,b,hk,d⟩:=hlv;exact⟨φ,w',fr,hc,φ.le_refl,hH.grown hb,bt,λk _ q=>⟨q,rfl⟩,hk,hfn,v,.flat v h2,a,b,d⟩
theorem uA {X:Ext}{q:bQ}{k:Option Rt}(h:lF X q k=some r):k=some r\/∃f args rp H nx v,q= .call f args false rp H nx/\X f args=some v/\r=⟨.ret v,false,H,nx⟩:=by
 cases q with
 | «at» c tm todo H nx=>exact .inl h
 | call f args kd rp H nx=>
   cases kd with
   | true=>exact .inl h
   | false=>
     have h:@Option.rec Value (λ_=>Option Rt) k (λv=>some ⟨.ret v,false,H,nx⟩) (X f args)=some r:=h;cases hx:X f args with
     | none=>rw[hx]at h;exact .inl h
     | some v=>rw[hx]at h;cases h;exact .inr ⟨f,args,rp,H,nx,v,rfl,hx,rfl⟩
theorem kZ (pl:hY)(X:Ext)(n:Nat)(q:bQ):FD P pl X (n+1) q=lF X q ((aV P pl q).run (FD P pl X n)):=rfl
theorem Hl {X:Ext}(hX:uz P W X):∀n,iM P W (FD P pl X n)
 | 0,q,r,h=>by cases h
 | n+1,q,r,h=>by
   rw[kZ]at h;rcases uA h with h | ⟨f,args,rp,H,nx,v,rfl,hx,rfl⟩
   . exact Ja (Hl hX n) q r h
   . exact Jb hX hx rp H nx
theorem Q.od {O O':bQ->Option Rt}(hO:∀q r,O q=some r->O' q=some r):∀(q:Q) (r:Rt),q.run O=some r->q.run O'=some r:=by
 intro q
 induction q with
 | ret a=>exact λr h=>h
 | bad=>exact λr h=>h
 | jump c=>exact λr h=>hO c r h
 | ask c k ih=>
   intro r h;obtain⟨a,h1,h2⟩:=kV h;show af (O' c) (λa=>(k a).run O') none=some r;rw[hO c a h1];exact ih a r h2
theorem qA {X:Ext}{q:bQ}{k k':Option Rt}(hk:∀r,k=some r->k'=some r)(h:lF X q k=some r):lF X q k'=some r:=by
 cases q with
 | «at» c tm todo H nx=>exact hk r h
 | call f args kd rp H nx=>
   cases kd with
   | true=>exact hk r h
   | false=>
     have h:@Option.rec Value (λ_=>Option Rt) k (λv=>some ⟨.ret v,false,H,nx⟩) (X f args)=some r:=h;show @Option.rec Value (λ_=>Option Rt) k' (λv=>some ⟨.ret v,false,H,nx⟩) (X f args)=some r;cases hx:X f args with
     | none=>rw[hx]at h;exact hk r h
     | some v=>rw[hx]at h;exact h
theorem uB {X:Ext}:∀(n:Nat) (q:bQ) (r:Rt),FD P pl X n q=some r->FD P pl X (n+1) q=some r
 | 0,q,r,h=>by cases h
 | n+1,q,r,h=>by
   rw[kZ]at h ⊢;exact qA (λr h=>Q.od (uB n) _ r h) h
theorem m4 {X:Ext}{n m:Nat}(hn:n<=m){q:bQ}{r:Rt}(h:FD P pl X n q=some r):FD P pl X m q=some r:=by
 induction hn with
 | refl=>exact h
 | step _ ih=>exact uB _ q r ih
open Classical in
def F (P:Program)(pl:hY)(X:Ext)(q:bQ):Option Rt:=if h:∃r n,FD P pl X n q=some r then some h.choose else none
theorem mo {X:Ext}{q:bQ}:F P pl X q=some r↔∃n,FD P pl X n q=some r:=by
 unfold F;constructor
 . intro h;split at h
   . rename_i hx;cases h;exact hx.choose_spec
   . cases h
 . rintro⟨n,hn⟩;have hx:∃r n,FD P pl X n q=some r:=⟨r,n,hn⟩;rw[dif_pos hx];obtain⟨m,hm⟩:=hx.choose_spec;have h1:=m4 (Nat.le_max_left n m) hn;have h2:=m4 (Nat.le_max_right n m) hm;rw[h1]at h2;cases h2;rfl
theorem Q.Fl {X:Ext}:∀(q:Q) (r:Rt),q.run (F P pl X)=some r->∃n,q.run (FD P pl X n)=some r:=by
 intro q
 induction q with
 | ret a=>exact λr h=>⟨0,h⟩
 | bad=>exact λr h=>(ff h).elim
 | jump c=>exact λr h=>mo.1 h
 | ask c k ih=>
   intro r h;obtain⟨a,h1,h2⟩:=kV h;obtain⟨n,hn⟩:=mo.1 h1;obtain⟨m,hm⟩:=ih a r h2;refine⟨max n m,?_⟩;show af (FD P pl X (max n m) c) (λa=>(k a).run (FD P pl X (max n m))) none=some r;rw[m4 (Nat.le_max_left n m) hn];exact Q.od (λq r h=>m4 (Nat.le_max_right n m) h) _ r hm
theorem rT {X:Ext}(q:bQ):F P pl X q=lF X q ((aV P pl q).run (F P pl X)):=by
 have up:∀r,F P pl X q=some r->lF X q ((aV P pl q).run (F P pl X))=some r:=λr h=>by
  obtain⟨n,hn⟩:=mo.1 h;cases n with
  | zero=>cases hn
  | succ n=>
    rw[kZ]at hn;exact qA (λr h=>Q.od (λq r h=>mo.2 ⟨n,h⟩) _ r h) hn
 have down:∀r,lF X q ((aV P pl q).run (F P pl X))=some r->F P pl X q=some r:=λr h=>by
  rcases uA h with h | ⟨f,args,rp,H,nx,v,rfl,hx,rfl⟩
  . obtain⟨n,hn⟩:=Q.Fl _ r h;cases hF:lF X q ((aV P pl q).run (FD P pl X n))with
    | none=>
      exfalso;rw[hn]at hF;cases q with
      | «at» c tm todo H nx=>cases hF
      | call f args kd rp H nx=>
        cases kd with
        | true=>cases hF
        | false=>
          have hF:@Option.rec Value (λ_=>Option Rt) (some r) (λv=>some ⟨.ret v,false,H,nx⟩) (X f args)=none:=hF;cases hx:X f args<;>rw[hx]at hF<;>cases hF
    | some r'=>
      have h1:F P pl X q=some r':=mo.2 ⟨n+1,by rw[kZ];exact hF⟩;have h2:=up r' h1;have h3:lF X q ((aV P pl q).run (F P pl X))=some r:=by assumption
      rw[h2]at h3;cases h3;exact h1
  . refine mo.2 ⟨1,?_⟩;rw[kZ];show @Option.rec Value (λ_=>Option Rt) _ (λv=>some ⟨.ret v,false,H,nx⟩) (X f args)=_;rw[hx]
 cases h:F P pl X q with
 | some r=>exact(up r h).symm
 | none=>
   cases h2:lF X q ((aV P pl q).run (F P pl X))with
   | none=>rfl
   | some r=>rw[down r h2]at h;cases h
theorem N4 {X:Ext}{n:Nat}{q:bQ}(h:FD P pl X n q=some r):F P pl X q=some r:=mo.2 ⟨n,h⟩
theorem oe {X:Ext}(hX:uz P W X){f:FuncId}{args args':List Value}{v:Value}{H':T OB}{nx':Nat}(hH:HR P W φ (hp H) W)(bt:φ.length=nx)(hl:LR φ args args')(hv:flat v=true)
 (h:F P pl X (.call f args false none H nx)=some ⟨.ret v,false,H',nx'⟩):Calls P f args'.toArray W λe w'=>e= .returned v/\Below W.heap.size W w':=by
 intro cs;obtain⟨n,hn⟩:=mo.1 h;obtain⟨φ1,w1,frl,s1,hle,hH1,hl1,hk1,hkk,hff,v',hv',hg⟩:=Hl hX n _ _ hn φ W args' cs hH bt hl (λq=>by cases q);have:=hv'.al hv;subst this;obtain⟨a,b,d⟩:=hg;exact⟨.returned v',w1,frl,⟨rfl,hH1.below⟩,s1,hff,a,b,hkk,d⟩
end
end
end Go.Ev
namespace Go.Ev
noncomputable section
set_option maxRecDepth 100000
set_option linter.unusedVariables false
set_option linter.unusedSimpArgs false
section
def A3 (l:List (Nat×Value)):T Value:=@List.rec (Nat×Value) (λ_=>T Value) .leaf (λp _ ih=>cm (bits p.1) ih (some p.2) id) l
def Jc (cd:Code):List Item->List (List Item):=
 @Code.rec (λ_=>List Item->List (List Item)) (λ_=>[]) (λ_ _ _ _=>[]) (λ_ b iha ihb k=>iha (.code b::k)++((.code b::k)::ihb k)) (λ_ _ _ iha ihb k=>iha k++ihb k) (λid _ ih k=>ih (.inBlock id::k))
  (λb ih k=>(.inLoop b::k)::ih (.inLoop b::k)) (λ_ _ _ _ _ _ _=>[]) (λ_ _=>[]) (λb ih k=>ih (.inScope b::k)) (λ_ _=>[]) (λ_ _=>[]) (λ_=>[]) (λ_ _=>[]) cd
def LA (key:Nat)(l:List (List Item)):List Item:=@List.rec (List Item) (λ_=>List Item) [] (λt _ ih=>bif Nat.beq (IT t) key then t else ih) l
def Cj (P:Program)(f:FuncId)(key:Nat):List Item:=match P.funcs[f]? with
 | some fn=>(match fn.body with
   | some cd=>LA key (Jc cd [])
   | none=>[])
 | none=>[]
def cW (P:Program)(H:T OB)(nx:Nat)(t:TypeId)(a:Option Value)(v:Value)(k:T OB->Nat->Q):Q:=
 E2 a λb off=>j7 (H.get (bits b)) λn _ _=>af (aE P t) (λs=>
  bif Nat.beq off 0&&(Nat.beq n s&&(Nat.beq v.cells.toList.length s&&v.cells.toList.all ah))then cm (bits b) H (some .dead) λH=>bD (Nat.succ nx) λn=>k H n else .bad) .bad
variable {P:Program}{pl:hY}{X:Ext}{H H0 H1:T OB}{nx nx0 aI:Nat}{v u:Value}{R:Go.Ev.Out->T OB->Nat->Prop}
def Ag (nx0:Nat)(H0:T OB)(nx:Nat)(H:T OB):Prop:=nx0<=nx/\∀k,k<nx0->hp H k=hp H0 k
theorem Ag.refl (nx:Nat)(H:T OB):Ag nx H nx H:=⟨Nat.le_refl _,λ_ _=>rfl⟩
theorem Ag.trans (h:Ag nx0 H0 nx H)(h':Ag nx H aI H1):Ag nx0 H0 aI H1:=⟨Nat.le_trans h.1 h'.1,λk hk=>(h'.2 k (Nat.lt_of_lt_of_le hk h.1)).trans (h.2 k hk)⟩
theorem Ag.set (h:Ag nx0 H0 nx H){b:Nat}(hb:nx0<=b)(x:Option OB):Ag nx0 H0 nx (Ev.set H (bits b) x):=⟨h.1,λk hk=>by rw[aU,az _ (by omega)];exact h.2 k hk⟩
theorem Ag.succ (h:Ag nx0 H0 nx H):Ag nx0 H0 (nx+1) H:=⟨Nat.le_succ_of_le h.1,h.2⟩
def ay (P:Program)(pl:hY)(X:Ext)(q:Q)(nx0:Nat)(H0:T OB)(R:Go.Ev.Out->T OB->Nat->Prop):Prop:=∃o H' nx',Ag nx0 H0 nx' H'/\R o H' nx'/\q.run (F P pl X)=some ⟨o,false,H',nx'⟩
abbrev O1 (P:Program)(pl:hY)(X:Ext)(q:Q)(nx0:Nat)(H0:T OB)(R:Value->T OB->Nat->Prop):Prop:=ay P pl X q nx0 H0 λo H nx=>∃v,o= .ret v/\R v H nx
abbrev Wq (P:Program)(pl:hY)(X:Ext)(q:Q)(nx0:Nat)(H0:T OB)(v:Value):Prop:=O1 P pl X q nx0 H0 λu _ _=>u=v
def Pure (P:Program)(pl:hY)(X:Ext)(f:FuncId)(args:List Value)(v:Value):Prop:=∀H nx,∃H' nx',Ag nx H nx' H'/\F P pl X (.call f args false none H nx)=some ⟨.ret v,false,H',nx'⟩
theorem Pure.of {f:FuncId}{args:List Value}(hx:X f args=none)(h:∀H nx,Wq P pl X (aV P pl (.call f args false none H nx)) nx H v):Pure P pl X f args v:=λH nx=>by
 obtain⟨_,H',nx',h1,⟨_,rfl,rfl⟩,h2⟩:=h H nx;refine⟨H',nx',h1,?_⟩;rw[rT];show @Option.rec Value (λ_=>Option Rt) _ (λv=>some ⟨.ret v,false,H,nx⟩) (X f args)=_;rw[hx];exact h2
theorem Pure.ext {f:FuncId}{args:List Value}(hx:X f args=some v):Pure P pl X f args v:=λH nx=>⟨H,nx,.refl _ _,by
 rw[rT];show @Option.rec Value (λ_=>Option Rt) _ (λv=>some ⟨.ret v,false,H,nx⟩) (X f args)=_;rw[hx]⟩
theorem Wq.ret (h:Ag nx0 H0 nx H):Wq P pl X (.ret ⟨.ret v,false,H,nx⟩) nx0 H0 v:=⟨.ret v,H,nx,h,⟨v,rfl,rfl⟩,rfl⟩
theorem Wq.kj {o:Go.Ev.Out}(h:Ag nx0 H0 nx H)(hR:R o H nx):ay P pl X (.ret ⟨o,false,H,nx⟩) nx0 H0 R:=⟨o,H,nx,h,hR,rfl⟩
theorem Wq.jump {q:bQ}(hq:∀k,lF X q k=k)(h:ay P pl X (aV P pl q) nx0 H0 R):ay P pl X (.jump q) nx0 H0 R:=by
 obtain⟨v,H',nx',h1,hR,h2⟩:=h;refine⟨v,H',nx',h1,hR,?_⟩;show F P pl X q=_;rw[rT,hq];exact h2
theorem Wq.call {g:FuncId}{args:List Value}{k p:Value->T OB->Nat->Q}(hg:Pure P pl X g args u)(h:Ag nx0 H0 nx H)(hk:∀H' nx',Ag nx0 H0 nx' H'->ay P pl X (k u H' nx') nx0 H0 R):
 ay P pl X (cD (.call g args false none H nx) k p) nx0 H0 R:=by
 obtain⟨H1,aI,h1,h2⟩:=hg H nx;obtain⟨v,H2,nx2,h3,hR,h4⟩:=hk H1 aI (h.trans h1);refine⟨v,H2,nx2,h3,hR,?_⟩;show af (F P pl X (.call g args false none H nx)) (λr=>(match r.o with | .ret v=>k v r.H r.nx | .eW v=>p v r.H r.nx:Q).run (F P pl X)) none=_;rw[h2];exact h4
theorem ik {e:TypeId}{l:List Value}{k:Value->T OB->Nat->Q}(hz:bn P e=some l):bf (bL P H nx e) k=k (iJ nx) (Ev.set H (bits nx) (some (ca l e))) (nx+1):=by
 unfold bL;rw[hz,aw,dy];rfl
theorem Wq.var {e t:TypeId}{l:List Value}{s:Nat}{x:Value}{k:T OB->Nat->Q}(hz:bn P e=some l)(hs:aE P t=some s)(hl:l.length=s)(hx:x.cells.toList.length=s)(hone:x.cells.toList.all ah=true)
 (h:Ag nx0 H0 nx H) (hk:∀H' nx',Ag nx0 H0 nx' H'->ay P pl X (k H' nx') nx0 H0 R):ay P pl X (bf (bL P H nx e) λp H nx=>cW P H nx t (some p) x k) nx0 H0 R:=by
 rw[ik hz];have hg:(Ev.set H (bits nx) (some (ca l e))).get (bits nx)=some (ca l e):=by rw[get_at,if_pos rfl]
 have e1:cW P (Ev.set H (bits nx) (some (ca l e))) (nx+1) t (some (iJ nx)) x k=k (Ev.set (Ev.set H (bits nx) (some (ca l e))) (bits nx) (some .dead)) (nx+1+1):=by
  show j7 ((Ev.set H (bits nx) (some (ca l e))).get (bits nx)) (λn _ _=>af (aE P t) (λs=>bif Nat.beq 0 0&&(Nat.beq n s&&(Nat.beq x.cells.toList.length s&&x.cells.toList.all ah))then
   cm (bits nx) (Ev.set H (bits nx) (some (ca l e))) (some .dead) λH=>bD (Nat.succ (nx+1)) λn=>k H n else .bad) .bad)=_
  rw[hg];show af (aE P t) (λs=>bif Nat.beq 0 0&&(Nat.beq l.length s&&(Nat.beq x.cells.toList.length s&&x.cells.toList.all ah))then
   cm (bits nx) (Ev.set H (bits nx) (some (ca l e))) (some .dead) λH=>bD (Nat.succ (nx+1)) λn=>k H n else .bad) .bad=_
  rw[hs,aw,hl,hx,hone,aA,aG];have e2:Nat.beq s s=true:=Nat.beq_refl s;rw[e2];rfl
 rw[e1];exact hk _ _ ((((h.set h.1 _).succ).set h.1 _).succ)
theorem Wq.bD {k:Nat->Q}(hk:ay P pl X (k (nx+1)) nx0 H0 R):ay P pl X (Ev.bD (Nat.succ nx) k) nx0 H0 R:=by rw[aG];exact hk
@[simp] theorem Hm (n:Nat):rq (n:Int)=true:=rfl
@[simp] theorem xK (k:IntKind) (n:Int):o7 (some false) (some 1) (.int k n)=some (.int k n):=rfl
@[simp] theorem xL (s:ByteArray):o7 (some false) (some 1) (.string s)=some (.string s):=rfl
@[simp] theorem uC (s:Bool):o7 (some false) (some 1) (.bool s)=some (.bool s):=rfl
@[simp] theorem xM (s:Nat) (es:List Value):o7 (some false) (some 1) (aP s es)=some (aP s es):=rfl
@[simp] theorem Ck (u:Value):o7 (some false) (some 1) (ae u)=some (ae u):=rfl
@[simp] theorem uD:o7 (some false) (some 1) (.pointer none)=some (.pointer none):=rfl
theorem cY {t:TypeId}{s:Nat}{es:List Value}{i:Nat}{u:Value}(hs:nj P t=some s)(hi:es[i]? = some u)(k:IntKind):aT P t (some (aP s es)) (some (.int k (i:Int)))=some (ae u):=by
 show fY (i:Int) (EW P t (some (aP s es))) none=_;rw[ej];show EV (nj P t) s es i=_;unfold EV;rw[hs,aw,Nat.beq_refl,hi];rfl
theorem dn {t ty:TypeId}(s:Nat)(es:List Value)(h:eI P (some t)=true):bJ P #[t] ty (some [aP s es])=some (.int .i64 (es.length:Int)):=by
 show(bif eI P (some t)then some (Value.int .i64 (.ofNat es.length))else none)=_;rw[h];rfl
theorem aX {α β:Type}(s:Sem α)(f:α->Sem β):bu P (s >>= f)=(bu P s).bind λa=>bu P (f a):=by
 show bu P (s.bind f)=_
 induction s with
 | pure a=>rfl
 | program k ih=>exact ih P
 | mark m k ih=>exact ih
 | _=>rfl
theorem bV {t:TypeId}{d:TypeDesc}(hu:P.underlying t=some d):bu P (underlying t)=some d:=by
 unfold underlying;simp only[aX,program,bu,Option.bind_some,hu];rfl
theorem aN {t ty:TypeId}(s:ByteArray)(hu:P.underlying t=some .string):bJ P #[t] ty (some [.string s])=some (.int .i64 (s.size:Int)):=by
 show g9 P .len #[t] ty (some [.string s])=_;show(bif true&&true then nf (bu P (builtin .len #[t] ty #[] ⟨[.string s]⟩))else none)=_;have e:bu P (builtin .len #[t] ty #[] ⟨[.string s]⟩)=some (.value (.int .i64 (s.size:Int))):=by
  simp only[builtin,Builtin.len_];simp[aX,bV hu,goInt];rfl
 rw[e];show(na (.int .i64 (s.size:Int)) λv=>bif flat v then some v else none)=_;rw[ia];rfl
@[simp] theorem mq (k:IntKind) (n:Int):ah (.int k n)=true:=rfl
@[simp] theorem jh (s:ByteArray):ah (.string s)=true:=rfl
@[simp] theorem k0 (b:Bool):ah (.bool b)=true:=rfl
@[simp] theorem mr (s:Nat) (es:List Value):ah (aP s es)=true:=rfl
@[simp] theorem og (u:Value):ah (ae u)=true:=rfl
@[simp] theorem k8:ah (.pointer none)=true:=rfl
theorem dc {w:Value}(h:flat w=true):fV P (pure w)=some w:=by
 show(na w λv=>bif flat v then some v else none)=_;rw[ia,h];rfl
theorem Cl (op:BinOp)(t:TypeId)(k:IntKind)(a b:Int):tF P op t (.int k a) (.int k b)=fV P (binOp op t (.int k a) (.int k b)):=by cases op<;>rfl
theorem il {op:BinOp}{t:TypeId}{q:Bool}{a b:Value}(ha:flat a=true)(hb:flat b=true)(hq:nm a=false)(hg:j5 a=false):bX P H op t q (some a) (some b)=tF P op t a b:=by
 have e:bX P H op t q (some a) (some b)=iT P H op t q a b:=by cases a<;>first | rfl | cases hg
 rw[e];show(bif flat a&&flat b then(bif q || !(nm a&&nm b)then tF P op t a b else none)else nk P H op t a b)=_;rw[ha,hb,hq];cases q<;>rfl
theorem cR (op:BinOp)(t:TypeId)(q:Bool)(k:IntKind)(a b:Int):bX P H op t q (some (.int k a)) (some (.int k b))=fV P (binOp op t (.int k a) (.int k b)):=by
 rw[il rfl rfl rfl rfl,Cl]
@[simp] theorem qB (t:TypeId) (q:Bool) (k:IntKind) (a b:Int):bX P H .add t q (some (.int k a)) (some (.int k b))=some (.int k (k.wrap (a+b))):=by
  rw[cR];have e:binOp .add t (.int k a) (.int k b)=pure (.int k (k.wrap (a+b))):=by simp[binOp,Op.intArith]
  rw[e];exact dc rfl
@[simp] theorem qC (t:TypeId) (q:Bool) (k:IntKind) (a b:Int):bX P H .sub t q (some (.int k a)) (some (.int k b))=some (.int k (k.wrap (a-b))):=by
  rw[cR];have e:binOp .sub t (.int k a) (.int k b)=pure (.int k (k.wrap (a-b))):=by simp[binOp,Op.intArith]
  rw[e];exact dc rfl
@[simp] theorem qD (t:TypeId) (q:Bool) (k:IntKind) (a b:Int):bX P H .mul t q (some (.int k a)) (some (.int k b))=some (.int k (k.wrap (a*b))):=by
  rw[cR];have e:binOp .mul t (.int k a) (.int k b)=pure (.int k (k.wrap (a*b))):=by simp[binOp,Op.intArith]
  rw[e];exact dc rfl
theorem A4 (t:TypeId)(q:Bool)(k:IntKind)(a b:Int)(hb:b≠0):bX P H .quo t q (some (.int k a)) (some (.int k b))=some (.int k (k.wrap (a.tdiv b))):=by
 rw[cR];have e:binOp .quo t (.int k a) (.int k b)=pure (.int k (k.wrap (a.tdiv b))):=by simp[binOp,Op.intDiv,hb]
 rw[e];exact dc rfl
theorem A5 (t:TypeId)(q:Bool)(k:IntKind)(a b:Int)(hb:b≠0):bX P H .rem t q (some (.int k a)) (some (.int k b))=some (.int k (a.tmod b)):=by
 rw[cR];have e:binOp .rem t (.int k a) (.int k b)=pure (.int k (a.tmod b)):=by simp[binOp,Op.intDiv,hb]
 rw[e];exact dc rfl
@[simp] theorem qE (t:TypeId) (q:Bool) (k:IntKind) (a b:Int):bX P H .lss t q (some (.int k a)) (some (.int k b))=some (.bool (decide (a<b))):=by
  rw[cR];have e:binOp .lss t (.int k a) (.int k b)=pure (.bool (decide (a<b))):=by simp[binOp,Op.intCmp]
  rw[e];exact dc rfl
@[simp] theorem qF (t:TypeId) (q:Bool) (k:IntKind) (a b:Int):bX P H .leq t q (some (.int k a)) (some (.int k b))=some (.bool (decide (a<=b))):=by
  rw[cR];have e:binOp .leq t (.int k a) (.int k b)=pure (.bool (decide (a<=b))):=by simp[binOp,Op.intCmp]
  rw[e];exact dc rfl
@[simp] theorem qG (t:TypeId) (q:Bool) (k:IntKind) (a b:Int):bX P H .gtr t q (some (.int k a)) (some (.int k b))=some (.bool (decide (b<a))):=by
  rw[cR];have e:binOp .gtr t (.int k a) (.int k b)=pure (.bool (decide (b<a))):=by simp[binOp,Op.intCmp]
  rw[e];exact dc rfl
@[simp] theorem qH (t:TypeId) (q:Bool) (k:IntKind) (a b:Int):bX P H .geq t q (some (.int k a)) (some (.int k b))=some (.bool (decide (b<=a))):=by
  rw[cR];have e:binOp .geq t (.int k a) (.int k b)=pure (.bool (decide (b<=a))):=by simp[binOp,Op.intCmp]
  rw[e];exact dc rfl
@[simp] theorem qI (t:TypeId) (q:Bool) (k:IntKind) (a b:Int):bX P H .eql t q (some (.int k a)) (some (.int k b))=some (.bool (decide (a=b))):=by
  rw[cR];have e:binOp .eql t (.int k a) (.int k b)=pure (.bool (decide (a=b))):=by simp[binOp,Op.intCmp];rfl
  rw[e];exact dc rfl
@[simp] theorem qJ (t:TypeId) (q:Bool) (k:IntKind) (a b:Int):bX P H .neq t q (some (.int k a)) (some (.int k b))=some (.bool (!decide (a=b))):=by
  rw[cR];have e:binOp .neq t (.int k a) (.int k b)=pure (.bool (!decide (a=b))):=by simp[binOp,Op.intCmp];rfl
  rw[e];exact dc rfl
theorem LB (a b:ByteArray):(a.toList == b.toList)=decide (a=b):=by
 rw[ByteArray.toList_eq,ByteArray.toList_eq];obtain⟨⟨x⟩⟩:=a;obtain⟨⟨y⟩⟩:=b;rw[Bool.eq_iff_iff];simp
theorem aL {t:TypeId}{z l:List Value}{vs:List (Nat×Value)}(hz:bn P t=some z)(hb:P.built t vs=some ⟨l⟩):aO P t (some vs)=some (.agg ⟨l⟩):=by
 show af (bn P t) (λ_=>af (P.built t vs) (λcs=>na (.agg cs) some) none) none=_;rw[hz,aw,hb,aw,ia]
@[simp] theorem oh (t:TypeId) (q:Bool) (a b:ByteArray):bX P H .eql t q (some (.string a)) (some (.string b))=some (.bool (decide (a=b))):=by
  rw[il rfl rfl rfl rfl];have e:tF P .eql t (.string a) (.string b)=fV P (binOp .eql t (.string a) (.string b)):=rfl;rw[e,binOp_string_eql,LB];exact dc rfl
@[simp] theorem oi (t:TypeId) (q:Bool) (a b:ByteArray):bX P H .neq t q (some (.string a)) (some (.string b))=some (.bool (!decide (a=b))):=by
  rw[il rfl rfl rfl rfl];have e:tF P .neq t (.string a) (.string b)=fV P (binOp .neq t (.string a) (.string b)):=rfl;rw[e,binOp_string_neq,LB];exact dc rfl
theorem wc (t:TypeId)(q:Bool)(a b:ByteArray)(h:a.size+b.size<=9223372036854775807):bX P H .add t q (some (.string a)) (some (.string b))=some (.string (a++b)):=by
 rw[il rfl rfl rfl rfl];have e:tF P .add t (.string a) (.string b)=fV P (binOp .add t (.string a) (.string b)):=rfl;have e2:Op.stringOp .add a b=pure (.string (a++b)):=by
  simp only[Op.stringOp];rw[if_neg];have:IntKind.i64.max=9223372036854775807:=by decide
  rw[this];omega
 rw[e,binOp_string_add,e2];exact dc rfl
@[simp] theorem rU (b:Bool):mR P .not (some (.bool b))=some (.bool (!b)):=by cases b<;>rfl
@[simp] theorem om {β:Type} (b:Bool) (k:Bool->β) (bad:β):E0 (.bool b) k bad=k b:=rfl
theorem bm {n:Int}(h: -9223372036854775808<=n/\n<9223372036854775808):IntKind.i64.wrap n=n:=by
 unfold IntKind.wrap;have:IntKind.i64.bits=64:=rfl;have:IntKind.i64.signed=true:=rfl;simp only[*,Bool.true_and];split
 . rename_i h';simp only[decide_eq_true_eq]at h';omega
 . rename_i h';simp only[decide_eq_true_eq]at h';omega
theorem Wq.bK {b:Bool}{x y:Q}(h:b=true->ay P pl X x nx0 H0 R)(h':b=false->ay P pl X y nx0 H0 R):ay P pl X (Ev.bK b x y) nx0 H0 R:=by
 cases b
 . exact h' rfl
 . exact h rfl
theorem Wq.ite {p:Prop}[Decidable p]{x y:Q}(h:p->ay P pl X x nx0 H0 R)(h':¬p->ay P pl X y nx0 H0 R):ay P pl X (Ev.bK (decide p) x y) nx0 H0 R:=
 Wq.bK (λq=>h (of_decide_eq_true q)) (λq=>h' (of_decide_eq_false q))
theorem Wq.uE {k:Nat->Q}(h:Ag nx0 H0 nx H)(hk:Ag nx0 H0 (nx+1) H->ay P pl X (k (nx+1)) nx0 H0 R):ay P pl X (Ev.bD (Nat.succ nx) k) nx0 H0 R:=Wq.bD (hk h.succ)
theorem Wq.up {σ:Type}(n:Nat)(q:Nat->σ->T OB->Nat->Q)(r:Nat->σ->Value)(hend:∀s H1 aI,Ag nx0 H0 aI H1->Wq P pl X (q n s H1 aI) nx0 H0 (r n s))
 (hstep:∀i s H1 aI,i<n->(∀s H2 nx2,Ag nx0 H0 nx2 H2->Wq P pl X (q (i+1) s H2 nx2) nx0 H0 (r (i+1) s))->Ag nx0 H0 aI H1->Wq P pl X (q i s H1 aI) nx0 H0 (r i s)):
 ∀(i:Nat) (s:σ) (H1:T OB) (aI:Nat),i<=n->Ag nx0 H0 aI H1->Wq P pl X (q i s H1 aI) nx0 H0 (r i s):=by
 have h:∀(d i:Nat),n-i=d->i<=n->∀(s:σ) (H1:T OB) (aI:Nat),Ag nx0 H0 aI H1->Wq P pl X (q i s H1 aI) nx0 H0 (r i s):=by
  intro d
  induction d with
  | zero=>intro i hd hi s H1 aI hA;obtain rfl:i=n:=by omega
          exact hend s H1 aI hA
  | succ d ih=>intro i hd hi s H1 aI hA;exact hstep i s H1 aI (by omega) (λs H2 nx2 h=>ih (i+1) (by omega) (by omega) s H2 nx2 h) hA
 exact λi s H1 aI hi hA=>h (n-i) i rfl hi s H1 aI hA
def cK (H:T OB)(b:Nat)(l:List Value)(e:TypeId):Prop:=∃tr,H.get (bits b)=some (.cells l.length tr e)/\∀i,i<l.length->tr.get (bits i)=l[i]?
theorem cK.new (l:List Value)(e:TypeId):cK (Ev.set H (bits nx) (some (ca l e))) nx l e:=⟨_,by rw[get_at,if_pos rfl];rfl,λi hi=>qp l i hi⟩
theorem cK.other {b:Nat}{l:List Value}{e:TypeId}(h:cK H b l e){c:Nat}(hc:b≠c)(x:Option OB):cK (Ev.set H (bits c) x) b l e:=by
 obtain⟨tr,h1,h2⟩:=h;exact⟨tr,by rw[get_at,if_neg hc];exact h1,h2⟩
theorem cK.ag {b:Nat}{l:List Value}{e:TypeId}(h:cK H b l e)(hA:Ag nx H aI H1)(hb:b<nx):cK H1 b l e:=by
 obtain⟨tr,h1,h2⟩:=h;exact⟨tr,(show hp H1 b=_ from(hA.2 b hb).trans h1),h2⟩
def gg (l u:List Value)(off:Nat):List Value:=l.take off++u++l.drop (off+u.length)
theorem im {tr:T Value}{l:List Value}(h:∀i,i<l.length->tr.get (bits i)=l[i]?):∀(n off:Nat),off+n<=l.length->mQ tr n off=some ((l.drop off).take n)
 | 0,off,_=>by rw[tR];simp
 | n+1,off,hn=>by
   have hlt:off<l.length:=by omega
   rw[tS,h off hlt,List.getElem?_eq_getElem hlt,im h n (off+1) (by omega),List.drop_eq_getElem_cons hlt,List.take_succ_cons]
theorem cI {b off s:Nat}{l:List Value}{e t:TypeId}(h:cK H b l e)(ha:cH P t=some true)(hs:aE P t=some s)(hn:off+s<=l.length):
 aj P H t (some (.pointer (some ⟨b,off,none⟩)))=some (.agg ⟨(l.drop off).take s⟩):=by
 obtain⟨tr,h1,h2⟩:=h;show iI P H t b off=_;unfold iI;rw[h1];show iR P l.length tr t off=_;unfold iR;rw[ha,aw];show nd P l.length tr t off=_;unfold nd;rw[hs,aw,im h2 s off hn,Nat.ble_eq_true_of_le hn];rfl
theorem ak {b off:Nat}{l:List Value}{e t:TypeId}{u:Value}(h:cK H b l e)(ha:cH P t=some false)(hu:l[off]? = some u):aj P H t (some (.pointer (some ⟨b,off,none⟩)))=some u:=by
 obtain⟨tr,h1,h2⟩:=h;have hlt:=(List.getElem?_eq_some_iff.1 hu).1;show iI P H t b off=_;unfold iI;rw[h1];show iR P l.length tr t off=_;unfold iR;rw[ha,aw];show nb l.length tr off=_;unfold nb;have e1:Nat.blt off l.length=true:=Nat.ble_eq_true_of_le hlt;rw[e1,h2 off hlt,hu];rfl
theorem Wq.alloc {e:TypeId}{l:List Value}{k:Value->T OB->Nat->Q}(hz:bn P e=some l)(h:Ag nx0 H0 nx H)
 (hk:∀H',cK H' nx l e->(∀b l e,b<nx->cK H b l e->cK H' b l e)->Ag nx0 H0 (nx+1) H'->ay P pl X (k (.pointer (some ⟨nx,0,none⟩)) H' (nx+1)) nx0 H0 R):ay P pl X (bf (bL P H nx e) k) nx0 H0 R:=by
 rw[ik hz];exact hk _ (cK.new l e) (λb l e hb h=>h.other (by omega) _) (h.succ.set h.1 _)
theorem Wq.box {e:TypeId}{u:Value}{k:Value->T OB->Nat->Q}(h:Ag nx0 H0 nx H)
 (hk:∀H',cK H' nx u.cells.toList e->(∀b l e,b<nx->cK H b l e->cK H' b l e)->Ag nx0 H0 (nx+1) H'->ay P pl X (k (.pointer (some ⟨nx,0,none⟩)) H' (nx+1)) nx0 H0 R):ay P pl X (bf (iV H nx e (some u)) k) nx0 H0 R:=by
 have e1:bf (iV H nx e (some u)) k=k (iJ nx) (Ev.set H (bits nx) (some (ca u.cells.toList e))) (nx+1):=by
  show bf (tH H nx e u.cells.toList λH n=> .val (iJ nx) H n) k=_;rw[dy];rfl
 rw[e1];exact hk _ (cK.new _ e) (λb l e hb h=>h.other (by omega) _) (h.succ.set h.1 _)
theorem A6 {l u:List Value}{off i:Nat}(hn:off+u.length<=l.length):(gg l u off)[i]? = if off<=i/\i<off+u.length then u[i-off]? else l[i]? := by
 unfold gg;have h1:(l.take off).length=off:=by simp;omega
 by_cases h:i<off
 . rw[if_neg (by omega),List.append_assoc,List.getElem?_append_left (by omega),List.getElem?_take,if_pos h]
 . by_cases h2:i<off+u.length
   . rw[if_pos (by omega),List.append_assoc,List.getElem?_append_right (by omega),List.getElem?_append_left (by omega),h1]
   . rw[if_neg (by omega),List.getElem?_append_right (by simp;omega),List.getElem?_drop];congr 1;simp;omega
theorem k9 {l u:List Value}{off:Nat}(hn:off+u.length<=l.length):(gg l u off).length=l.length:=by
 unfold gg;simp;omega
theorem Wq.store {b off s:Nat}{l:List Value}{e t:TypeId}{u:Value}{k:Value->T OB->Nat->Q}(hb:cK H b l e)(hs:aE P t=some s)(hn:off+s<=l.length)(hl:u.cells.toList.length=s)(hone:u.cells.toList.all ah=true)
 (h:Ag nx0 H0 nx H) (hbn:nx0<=b) (hk:∀H',cK H' b (gg l u.cells.toList off) e->(∀c l e,c≠b->cK H c l e->cK H' c l e)->Ag nx0 H0 nx H'->ay P pl X (k undef H' nx) nx0 H0 R):
 ay P pl X (bf (bY P H nx t (some (.pointer (some ⟨b,off,none⟩))) (some u)) k) nx0 H0 R:=by
 obtain⟨tr,h1,h2⟩:=hb;have e1:bY P H nx t (some (.pointer (some ⟨b,off,none⟩))) (some u)= .val undef (Ev.set H (bits b) (some (.cells l.length (dw u.cells.toList off tr) e))) nx:=by
  show cP (H.get (bits b)) (λn tr e=>af (aE P t) (λs=>bif Nat.beq u.cells.toList.length s&&Nat.ble (off+s) n&&u.cells.toList.all ah then
   dE u.cells.toList off tr λtr=>cm (bits b) H (some (.cells n tr e)) λH=>dG.val undef H nx else .bad) .bad) .bad=_
  rw[h1];show af (aE P t) (λs=>bif Nat.beq u.cells.toList.length s&&Nat.ble (off+s) l.length&&u.cells.toList.all ah then
   dE u.cells.toList off tr λtr=>cm (bits b) H (some (.cells l.length tr e)) λH=>dG.val undef H nx else .bad) .bad=_
  rw[hs,aw,hl,Nat.beq_refl,Nat.ble_eq_true_of_le hn,hone,cc,aA];rfl
 rw[e1];have hn':off+u.cells.toList.length<=l.length:=by rw[hl];exact hn
 refine hk _ ⟨dw u.cells.toList off tr,?_,λi hi=> ?_⟩ (λc l e hc h=>h.other hc _) (h.set hbn _)
 . rw[get_at,if_pos rfl,k9 hn']
 . rw[k9 hn']at hi;rw[cB,A6 hn'];split
   . rfl
   . exact h2 i hi
end
end
end Go.Ev
namespace Go.Proofs.YthjhonhhbddhkaaDoor
open Go.Ev Go.RowKit
noncomputable section
set_option maxRecDepth 100000
set_option linter.unusedVariables false
set_option linter.unusedSimpArgs false
set_option maxHeartbeats 8000000
noncomputable abbrev P:Program:=Tryd.prog
def pl:hY:=⟨[(34,[0]),(12,[1000]),(47,[1000]),(63,[1000]),(64,[1000]),(83,[1000]),(93,[1000]),(96,[1000]),(92,[1000]),(79,[1000]),(90,[1000]),(60,[1000]),(81,[1000]),(80,[1000]),(61,[1000]),(46,[1000]),(59,[1000]),(26,[1000])],[(31,[1]),(11,[0,1]),(17,[0]),(18,[0]),(19,[0]),(20,[0]),(16,[0]),(13,[0])],[(8,[5]),(12,[7]),(13,[6]),(14,[1,5,7,9,11,13]),(15,[6]),(16,[6]),(17,[2,3]),(18,[2,3]),(19,[2,3]),(20,[2,3]),(24,[1]),(25,[4]),(27,[1,5]),(28,[1,5,7]),(29,[1,5]),(30,[3,5,7]),(47,[3,4,5,6]),(50,[6]),(53,[3,5]),(54,[3]),(55,[3]),(56,[3,7]),(57,[3,5]),(59,[4]),(61,[4]),(65,[5]),(66,[5]),(67,[3,5]),(68,[8]),(69,[7]),(70,[3,5,6]),(72,[3]),(75,[3]),(76,[3,5,7]),(78,[5]),(80,[4]),(84,[3]),(86,[1]),(88,[3]),(90,[4]),(92,[3]),(93,[3,6]),(95,[4]),(96,[4])],[((4,20),[3,6,8,10,46]),((3,11),[0,1,5,6]),((3,12),[0,1,5,6]),((11,11),[0,1,5]),((11,18),[0,1,5,6,7,75]),((11,23),[0,1,5,6,7,8]),((11,30),[0,1,5,6,7,8,113]),((8,9),[3,6,7,8]),((5,14),[0]),((21,11),[0,1,5]),((20,6),[2,3,29]),((20,11),[2,3,5]),((20,21),[2,3,6]),((18,6),[2,3,49]),((18,11),[2,3,5]),((15,9),[4,9,10,11]),((16,9),[4,7,8,9]),((16,34),[4,7,8,9]),((16,22),[4,6,7,8,9]),((25,12),[0,1,2,4]),((13,7),[0,2,3,4,8,9,10]),((12,13),[0,5,6]),((14,70),[3]),((14,17),[3,28,29,30]),((14,39),[3,56,57,58]),((14,59),[3,79,80,81]),((14,25),[3,28,29,30,40,41,42]),((14,45),[3,56,57,58,63,64,65]),((35,11),[0,1,5]),((35,16),[0,1,5,54]),((30,24),[0,3]),((30,27),[0,48,49,50]),((30,39),[0,5,48,49,50,76,77,78]),((34,9),[0,3,4]),((34,18),[0,3,4,5,20]),((34,30),[0,3,4,5,43]),((33,10),[0,3]),((33,15),[0,3,4,5]),((33,28),[4,5]),((24,26),[1,66]),((24,46),[1,90]),((24,31),[1,3]),((24,48),[1,110]),((24,36),[1,3,86]),((24,53),[1,4]),((26,7),[0,3]),((26,14),[0,3,4]),((23,54),[2,5,6]),((23,38),[0,2,4,5,6,102]),((23,46),[0,2,5,6,121]),((23,49),[0,2,5,6]),((23,13),[0,2,5,6,23,24]),((23,18),[0,2,5,6,8,23,24,59]),((22,7),[0,3,4]),((22,18),[0,3,4,5,6]),((22,42),[3]),((22,24),[0,3,4]),((22,30),[0,3,4,5,69]),((22,36),[0,3,4,85]),((29,9),[3,7,8,9]),((28,9),[1,3,12,13,14]),((28,19),[3,24,25,26]),((27,9),[3,7,8,9]),((55,6),[0,3,12]),((57,11),[0,18,19,20]),((56,10),[0,3]),((56,13),[0,3,21,22,23]),((56,20),[0,3,5,21,22,23]),((56,28),[0,3]),((56,35),[0,59,60,61]),((53,36),[0,3,7,51]),((53,40),[0,3]),((53,83),[0,163,164,165]),((52,14),[0]),((52,20),[0,3]),((52,26),[0,3]),((52,38),[0,3]),((52,44),[0,3]),((52,28),[0,3,72]),((50,8),[3,4,5,6,72]),((42,6),[0,3]),((44,7),[1,7,8,9]),((41,7),[0,1,5]),((38,9),[0,4,5]),((38,10),[0,4,5]),((38,34),[0,4,5,6,49]),((37,7),[0,4,5]),((76,18),[0,3,9,26]),((76,20),[0,3]),((76,40),[0,3]),((76,23),[0,3,52,53,54]),((76,43),[0,3,85,86,87]),((76,30),[0,3,5,52,53,54]),((76,50),[0,3,7,85,86,87]),((76,58),[0,3]),((69,5),[0,2,8,9,10]),((69,12),[0,2,7,8,9,10]),((75,46),[0,3,77]),((75,56),[0,3]),((74,7),[1,7,8,9]),((73,6),[0,2,10]),((71,7),[0,5,6]),((70,13),[0,3,19,20,21]),((70,18),[0,3,5,19,20,21]),((70,38),[0]),((66,5),[0,6,7,8]),((66,12),[0,5,6,7,8]),((67,6),[0,3]),((67,10),[0,3]),((67,23),[0,92,93,94]),((64,11),[0,1,4,5]),((64,14),[0,1,4,5,6,26]),((63,5),[0,3,4]),((61,17),[0,2,5]),((61,22),[2]),((60,10),[2,3]),((59,24),[0,2,3]),((59,19),[0,2,3]),((59,31),[0,2,3]),((58,14),[0,8,9]),((58,28),[0,34]),((88,6),[0,3,17]),((87,4),[0,1,2]),((87,7),[0,1,2,6]),((87,14),[0,1,2,6]),((86,20),[5]),((84,8),[3,13]),((83,8),[0,2,3,13]),((83,15),[0,2,4]),((80,20),[0,2,3]),((81,7),[0,2,3]),((79,11),[0,2,3]),((79,14),[0,2,3]),((78,10),[0,4,5]),((77,10),[0,9]),((94,14),[0,6]),((93,47),[0,2,4,73,74]),((93,55),[0,2,4,6,7]),((93,60),[0,2,4,73,74]),((92,53),[0,2,4]),((92,56),[0,2,4]),((91,14),[0,6]),((90,44),[0,2,3]),((90,29),[0,2,3,7]),((90,47),[0,2,3,10,11]),((90,40),[0,2,3,7,8]),((96,7),[0,2,3]),((96,14),[0,2,3,4]),((96,25),[0,2,3,6]),((96,28),[0,2,3,6]),((95,8),[0,4,13])],true⟩
abbrev i64 (n:Int):Value:= .int .i64 n
abbrev pB (op:BinOp)(ty:TypeId)(b:Bool)(x y:Value)(H:T OB)(k:Value->Q):Q:=af (bX P H op ty b (some x) (some y)) k .bad
abbrev pT (op:BinOp)(ty:TypeId)(b:Bool)(x y:Value)(H:T OB)(A B:Q):Q:=af (bX P H op ty b (some x) (some y)) (λz=>E0 z (λc=>bK c A B) .bad) .bad
abbrev pL (ty:TypeId)(x:Value)(H:T OB)(k:Value->Q):Q:=af (aj P H ty (some x)) k .bad
abbrev pF (t:TypeId)(x:Value)(n:Nat)(k:Value->Q):Q:=af (aa P t (some x) n) k .bad
abbrev pX (t:TypeId)(x:Value)(n:Nat)(ty:TypeId)(H:T OB)(k:Value->Q):Q:=af (aa P t (some x) n) (λa=>af (aj P H ty (some a)) k .bad) .bad
abbrev pN (t ty:TypeId)(x:Value)(k:Value->Q):Q:=af (bJ P #[t] ty (some [x])) k .bad
abbrev pA (t:TypeId)(x y:Value)(k:Value->Q):Q:=af (aT P t (some x) (some y)) k .bad
abbrev pI (t:TypeId)(x y:Value)(k:Value->Q):Q:=af (da P t (some x) (some y)) k .bad
abbrev pE (x:Value)(n:Nat)(k:Value->Q):Q:=af (bo (some x) n) k .bad
abbrev pY (x:Value)(k:Value->Q):Q:=af (kC (some x)) k .bad
abbrev pD (t:TypeId)(l:List (Nat×Value))(k:Value->Q):Q:=af (aO P t (some l)) k .bad
abbrev pO (x:Option Value)(k:Value->Q):Q:=af x k .bad
abbrev pV (x:Value)(A B:Q):Q:=E0 x (λc=>bK c A B) .bad
abbrev pW (x:Value)(k:Bool->Q):Q:=E0 x k .bad
abbrev pC (f:FuncId)(l:List Value)(H:T OB)(nx:Nat)(k:Value->T OB->Nat->Q):Q:=cD (.call f l false none H nx) k h_
abbrev pR (v:Value)(H:T OB)(nx:Nat):Q:= .ret ⟨.ret v,false,H,nx⟩
abbrev pS (ty:TypeId)(a v:Value)(H:T OB)(nx:Nat)(k:Value->T OB->Nat->Q):Q:=bf (bY P H nx ty (some a) (some v)) k
abbrev pM (ty:TypeId)(H:T OB)(nx:Nat)(k:Value->T OB->Nat->Q):Q:=bf (bL P H nx ty) k
abbrev pG (t:TypeId)(n:Nat)(l:List (Nat×Value))(H:T OB)(nx:Nat)(k:Value->T OB->Nat->Q):Q:=bf (aF P H nx t n (some l)) k
abbrev pP (t:List TypeId)(l:List Value)(H:T OB)(nx:Nat)(k:Value->T OB->Nat->Q):Q:=bf (cw P H nx t (some l)) k
abbrev cZ (f n b:Nat)(l:List (Nat×Value))(H:T OB)(nx:Nat):bQ:= .at ⟨f,n,false,[],none,false⟩ (A3 l) (Cj P f b) H nx
end
end Go.Proofs.YthjhonhhbddhkaaDoor
namespace Go.Ev
noncomputable section
set_option maxRecDepth 100000
set_option linter.unusedVariables false
set_option linter.unusedSimpArgs false
section
variable {P:Program}{pl:hY}{X:Ext}{H H0 H1:T OB}{nx nx0 aI:Nat}{v u:Value}{R:Go.Ev.Out->T OB->Nat->Prop}
theorem Wq.new {e:TypeId}{l:List Value}{q:T OB->Nat->Q}(h:Ag nx0 H0 nx H)(hk:∀H',cK H' nx l e->(∀b l e,b<nx->cK H b l e->cK H' b l e)->Ag nx0 H0 (nx+1) H'->ay P pl X (q H' (nx+1)) nx0 H0 R):
 ay P pl X (q (Ev.set H (bits nx) (some (ca l e))) (nx+1)) nx0 H0 R:=hk _ (cK.new l e) (λb l e hb h=>h.other (by omega) _) (h.succ.set h.1 _)
theorem Wq.row {t e:TypeId}{s n:Nat}{vs:List (Nat×Value)}{z l:List Value}{k:Value->T OB->Nat->Q}(hu:P.underlying t=some (.slice e))(hs:aE P e=some s)(hz:bn P e=some z)
 (hg:(Nat.ble (n*s) 16777216&&Nat.blt 0 (n*s)&&Nat.blt 0 z.length)=true) (hf:Instr.fill (λi=>some (i*s,s)) (bk z (n*s)) vs=some ⟨l⟩) (h:Ag nx0 H0 nx H)
 (hk:∀H',cK H' nx l e->(∀b l e,b<nx->cK H b l e->cK H' b l e)->Ag nx0 H0 (nx+1) H'->ay P pl X (k (.slice (some ⟨nx,0,none⟩) n n) H' (nx+1)) nx0 H0 R):
 ay P pl X (bf (aF P H nx t n (some vs)) k) nx0 H0 R:=by
 have e1:bf (aF P H nx t n (some vs)) k=k (.slice (some ⟨nx,0,none⟩) n n) (Ev.set H (bits nx) (some (ca l e))) (nx+1):=by
  unfold aF cC;rw[aw,hu];simp only[hs,aw,hz,hg,cond_true,hf];rw[dy,aG];rfl
 rw[e1];exact Wq.new h hk
theorem Cm {b s n c:Nat}{l:List Value}{e:TypeId}(h:cK H b l e)(hn:l.length=n*s):nv H s (.slice (some ⟨b,0,none⟩) n c)=some (n,l):=by
 obtain⟨tr,h1,h2⟩:=h;show af (cellsOf H s (some ⟨b,0,none⟩) n) (λl=>some (n,l)) none=_;unfold cellsOf;simp only;rw[h1];show af (bif Nat.ble (0+n*s) l.length then mQ tr (n*s) 0 else none) (λl=>some (n,l)) none=_;rw[Nat.zero_add,hn,Nat.ble_eq_true_of_le (Nat.le_refl _),cond_true,<- hn,im h2 _ _ (by omega)];simp
def isStr (v:Value):Bool:=match v with
 | .string _=>true
 | _=>false
theorem jD {t:TypeId}{x:Value}{base:Option Addr}{sl sc:Nat}(hx:isStr x=false):cw P H nx [t,t] (some [.slice base sl sc,x])=cC P t (λe s=>af (nv H s x) (λp=>bif a_ P e s (sl+p.1)then pc P H nx e s base sl sc p.1 p.2 else .bad) .bad) .bad:=by
 have e1:cw P H nx [t,t] (some [.slice base sl sc,x])=kF P H nx [t,t] (some [.slice base sl sc,x]):=by cases x<;>first | rfl | cases hx
 rw[e1];show(bif !Nat.beq t t then dG.bad else _)=_;rw[Nat.beq_refl];rfl
theorem Wq.LC {t e:TypeId}{s m:Nat}{x:Value}{xs:List Value}{k:Value->T OB->Nat->Q}(hu:P.underlying t=some (.slice e))(hs:aE P e=some s)(hx:isStr x=false)(hxs:nv H s x=some (m,xs))(hsm:a_ P e s m=true)(h:Ag nx0 H0 nx H)
 (h0:m=0->ay P pl X (k (.slice none 0 0) H nx) nx0 H0 R)
 (hk:∀H',0<m->cK H' nx xs e->(∀b l e,b<nx->cK H b l e->cK H' b l e)->Ag nx0 H0 (nx+1) H'->ay P pl X (k (.slice (some ⟨nx,0,none⟩) m eC) H' (nx+1)) nx0 H0 R):
 ay P pl X (bf (cw P H nx [t,t] (some [.slice none 0 0,x])) k) nx0 H0 R:=by
 rw[jD hx];unfold cC;rw[hu];simp only[hs,aw,hxs,Nat.zero_add,hsm,cond_true];show ay P pl X (bf (bif Nat.beq 0 0&&Nat.beq 0 0 then(bif Nat.beq m 0 then .val (.slice none 0 0) H nx else fZ H nx e m xs)else .bad) k) nx0 H0 R;cases m with
 | zero=>exact h0 rfl
 | succ m=>
   show ay P pl X (bf (fZ H nx e (m+1) xs) k) nx0 H0 R;rw[gd];exact Wq.new (q:=λH n=>k (.slice (some ⟨nx,0,none⟩) (m+1) eC) H n) h λH' a b c=>hk H' (Nat.succ_pos _) a b c
theorem Wq.app {t e e':TypeId}{b s n m:Nat}{x:Value}{l xs:List Value}{k:Value->T OB->Nat->Q}(hu:P.underlying t=some (.slice e))(hs:aE P e=some s)(hb:cK H b l e')(hs':aE P e'=some s)(hl:l.length=n*s)(hx:isStr x=false)(hxs:nv H s x=some (m,xs))
 (hone:xs.all ah=true) (hsm:a_ P e s (n+m)=true) (h:Ag nx0 H0 nx H) (hbn:nx0<=b) (hbx:b<nx)
 (hk:∀H',cK H' nx (l++xs) e->(∀c l e,c≠b->c<nx->cK H c l e->cK H' c l e)->Ag nx0 H0 (nx+1) H'->ay P pl X (k (.slice (some ⟨nx,0,none⟩) (n+m) eC) H' (nx+1)) nx0 H0 R):
 ay P pl X (bf (cw P H nx [t,t] (some [.slice (some ⟨b,0,none⟩) n eC,x])) k) nx0 H0 R:=by
 rw[jD hx];unfold cC;rw[hu];simp only[hs,aw,hxs,hsm,cond_true];obtain⟨tr,h1,h2⟩:=hb;have e1:pc P H nx e s (some ⟨b,0,none⟩) n eC m xs=fZ (Ev.set H (bits b) (some .dead)) nx e (n+m) (l++xs):=by
  show tJ P H nx e s b 0 n eC m xs=_;unfold tJ;rw[h1];have eu:Nat.beq eC eC=true:=Nat.beq_refl _;simp only[cP,eu,cond_true];unfold K6 o9;rw[h1];show(bif Nat.beq 0 0&&Nat.ble (n*s) l.length&&af (aE P e') (λz=>Nat.beq z s) false&&xs.all ah then _ else _)=_;rw[hs',aw,Nat.beq_refl,hl,Nat.ble_eq_true_of_le (Nat.le_refl _),hone];have:mQ tr (n*s) 0=some l:=by rw[<- hl,im h2 _ _ (by omega)];simp
  rw[this,Nat.beq_refl];show cm (bits b) H (some .dead) (λH=>fZ H nx e (n+m) (l++xs))=_;rw[aA]
 rw[e1,gd];exact Wq.new (q:=λH n'=>k (.slice (some ⟨nx,0,none⟩) (n+m) eC) H n') (h.set hbn _) λH' ha hb hc=>hk H' ha (λc l e hcb hcn hi=>hb c l e hcn (hi.other hcb _)) hc
theorem mu:∀(l:List Value),chunk false 1 l.length l=some l
 | []=>rfl
 | v::l=>by
   show(bif Nat.ble 1 (l.length+1)then af (chunk false 1 l.length l) (λr=>bK false _ (af (some v) (λv=>some (v::r)) none)) none else none)=_;rw[Nat.ble_eq_true_of_le (by omega),mu l];rfl
theorem oo (s:Nat):∀(es:List (List Value)),(∀x,x∈es->x.length=s)->chunk true s es.length es.flatten=some (es.map λx=> .agg ⟨x⟩)
 | [],_=>rfl
 | x::es,h=>by
   have hx:=h x List.mem_cons_self;show(bif Nat.ble s (x++es.flatten).length then af (chunk true s es.length ((x++es.flatten).drop s)) (λr=>some (.agg ⟨(x++es.flatten).take s⟩::r)) none else none)=_;rw[Nat.ble_eq_true_of_le (by simp;omega),<- hx,List.drop_left,List.take_left,hx,oo s es λy hy=>h y (List.mem_cons_of_mem _ hy)];rfl
theorem Wq.N5 {t e e':TypeId}{b s n c:Nat}{a:Bool}{l es:List Value}{k:Value->T OB->Nat->Q}(hu:P.underlying t=some (.slice e))(hs:aE P e=some s)(ha:cH P e=some a)(hpos:(Nat.blt 0 s&&(a||Nat.beq s 1))=true)(hb:cK H b l e')(hl:l.length=n*s)
 (hc:(Nat.beq c eC||Nat.ble n c)=true) (hch:chunk a s n l=some es) (hone:(es.all λx=>Ev.bK a true (ah x))=true) (h:Ag nx0 H0 nx H) (hbn:nx0<=b)
 (hk:∀H',(∀c l e,c≠b->cK H c l e->cK H' c l e)->Ag nx0 H0 (nx+1) H'->ay P pl X (k (aP s es) H' (nx+1)) nx0 H0 R):
 ay P pl X (j6 P t (.slice (some ⟨b,0,none⟩) n c) H nx k) nx0 H0 R:=by
 obtain⟨tr,h1,h2⟩:=hb;have e2:EY P H e b 0 n=some (aP s es):=by
  unfold EY;rw[h1];show af (aE P e) (λs=>af (cH P e) (λa=>bif Nat.ble (0+n*s) l.length&&Nat.blt 0 s&&(a||Nat.beq s 1)then _ else none) none) none=_;rw[hs,aw,ha,aw,Nat.zero_add,hl,Nat.ble_eq_true_of_le (Nat.le_refl _),Bool.true_and,hpos,cond_true];have:mQ tr (n*s) 0=some l:=by rw[<- hl,im h2 _ _ (by omega)];simp
  rw[this,aw,hch,aw,hone];rfl
 have e1:j6 P t (.slice (some ⟨b,0,none⟩) n c) H nx k=k (aP s es) (Ev.set H (bits b) (some (NV (H.get (bits b))))) (nx+1):=by
  unfold j6;rw[hu];simp only;unfold gH;rw[hu];simp only;rw[hc,cond_true,e2,aw,aA,aG]
 rw[e1];exact hk _ (λc l e hc hi=>hi.other hc _) ((h.set hbn _).succ)
theorem we {t:TypeId}{s b off len c i:Nat}(hs:nj P t=some s)(hi:i<len)(k:IntKind):aT P t (some (.slice (some ⟨b,off,none⟩) len c)) (some (.int k (i:Int)))=some (.pointer (some ⟨b,off+i*s,none⟩)):=by
 show fY (i:Int) (EW P t (some (.slice (some ⟨b,off,none⟩) len c))) none=_;rw[ej];show af (nj P t) (λs=>bif Nat.blt i len then bD (Nat.add off (Nat.mul i s)) (λo=>some (Value.pointer (some ⟨b,o,none⟩)))else none) none=_;rw[hs,aw,show Nat.blt i len=true from Nat.ble_eq_true_of_le hi,cond_true,aG];rfl
theorem d_ {t ty:TypeId}{a:Addr}{n c:Nat}(h:eI P (some t)=true):bJ P #[t] ty (some [.slice (some a) n c])=some (.int .i64 (n:Int)):=by
 show(bif eI P (some t)then some (Value.int .i64 (.ofNat n))else none)=_;rw[h];rfl
@[simp] theorem Cn (a:Option Addr) (n c:Nat):o7 (some false) (some 1) (.slice a n c)=some (.slice a n c):=rfl
@[simp] theorem ot (a:Option Addr) (n c:Nat):ah (.slice a n c)=true:=rfl
@[simp] theorem uF (u:Value):kC (some (ae u))=some (ae u):=rfl
@[simp] theorem qK (a:Addr):kC (some (.pointer (some a)))=some (.pointer (some a)):=rfl
theorem Wq.LD {f:FuncId}{args:List Value}{R1:Value->T OB->Nat->Prop}{k p:Value->T OB->Nat->Q}(hx:X f args=none)(h:O1 P pl X (aV P pl (.call f args false none H nx)) nx0 H0 R1)
 (hk:∀u H' nx',Ag nx0 H0 nx' H'->R1 u H' nx'->ay P pl X (k u H' nx') nx0 H0 R):ay P pl X (cD (.call f args false none H nx) k p) nx0 H0 R:=by
 obtain⟨_,H1,aI,h1,⟨u,rfl,hR1⟩,h2⟩:=h;obtain⟨v,H2,nx2,h3,hR,h4⟩:=hk u H1 aI h1 hR1;refine⟨v,H2,nx2,h3,hR,?_⟩;show af (F P pl X (.call f args false none H nx)) (λr=>(match r.o with | .ret v=>k v r.H r.nx | .eW v=>p v r.H r.nx:Q).run (F P pl X)) none=_;have e1:F P pl X (.call f args false none H nx)=some ⟨.ret u,false,H1,aI⟩:=by
  rw[rT];show @Option.rec Value (λ_=>Option Rt) _ (λv=>some ⟨.ret v,false,H,nx⟩) (X f args)=_;rw[hx];exact h2
 rw[e1];exact h4
theorem Wq.fM {f:FuncId}{args:List Value}{R1:Go.Ev.Out->T OB->Nat->Prop}{k p:Value->T OB->Nat->Q}(hx:X f args=none)(h:ay P pl X (aV P pl (.call f args false none H nx)) nx0 H0 R1)
 (hk:∀u H' nx',Ag nx0 H0 nx' H'->R1 (.ret u) H' nx'->ay P pl X (k u H' nx') nx0 H0 R) (hp:∀u H' nx',Ag nx0 H0 nx' H'->R1 (.eW u) H' nx'->ay P pl X (p u H' nx') nx0 H0 R):ay P pl X (cD (.call f args false none H nx) k p) nx0 H0 R:=by
 obtain⟨o,H1,aI,h1,hR1,h2⟩:=h;have e1:F P pl X (.call f args false none H nx)=some ⟨o,false,H1,aI⟩:=by
  rw[rT];show @Option.rec Value (λ_=>Option Rt) _ (λv=>some ⟨.ret v,false,H,nx⟩) (X f args)=_;rw[hx];exact h2
 cases o with
 | ret u=>
   obtain⟨v,H2,nx2,h3,hR,h4⟩:=hk u H1 aI h1 hR1;refine⟨v,H2,nx2,h3,hR,?_⟩;show af (F P pl X (.call f args false none H nx)) (λr=>(match r.o with | .ret v=>k v r.H r.nx | .eW v=>p v r.H r.nx:Q).run (F P pl X)) none=_;rw[e1];exact h4
 | eW u=>
   obtain⟨v,H2,nx2,h3,hR,h4⟩:=hp u H1 aI h1 hR1;refine⟨v,H2,nx2,h3,hR,?_⟩;show af (F P pl X (.call f args false none H nx)) (λr=>(match r.o with | .ret v=>k v r.H r.nx | .eW v=>p v r.H r.nx:Q).run (F P pl X)) none=_;rw[e1];exact h4
theorem Wq.Co {f:FuncId}{args:List Value}{k p:Value->T OB->Nat->Q}(hx:X f args=none)(h:Wq P pl X (aV P pl (.call f args false none H nx)) nx0 H0 u)
 (hk:∀H' nx',Ag nx0 H0 nx' H'->ay P pl X (k u H' nx') nx0 H0 R):ay P pl X (cD (.call f args false none H nx) k p) nx0 H0 R:=
 Wq.LD hx h λu' H' nx' hA hu=>by subst hu;exact hk H' nx' hA
theorem Jd {t e:TypeId}{x:Value}{k:Value->T OB->Nat->Q}(hu:P.underlying t=some (.slice e)):gH P t x H nx k=j6 P t x H nx k:=by
 unfold j6;rw[hu]
theorem Fm (ts:Array TypeId)(t:TypeId)(a b:Int):g9 P .max ts t (some [.int .i64 a,.int .i64 b])=some (.int .i64 (if b>a then b else a)):=by
 show(bif true&&(true&&true)then nf (bu P (builtin .max ts t #[] ⟨[.int .i64 a,.int .i64 b]⟩))else none)=_;have e:bu P (builtin .max ts t #[] ⟨[.int .i64 a,.int .i64 b]⟩)=some (.value (.int .i64 (if b>a then b else a))):=by
  simp only[builtin,Builtin.max_];simp[aX,Builtin.max2];rfl
 rw[e];show(na (.int .i64 (if b>a then b else a)) λv=>bif flat v then some v else none)=_;rw[ia];rfl
theorem Wq.N6 {e t:TypeId}{l:List Value}{s:Nat}{x:Value}{k:T OB->Nat->Q}(hz:bn P e=some l)(hs:aE P t=some s)(hl:l.length=s)(hx:x.cells.toList.length=s)(hone:x.cells.toList.all ah=true)
 (h:Ag nx0 H0 nx H) (hk:∀H' nx',Ag nx0 H0 nx' H'->nx<=nx'->(∀b l e,b<nx->cK H b l e->cK H' b l e)->ay P pl X (k H' nx') nx0 H0 R):ay P pl X (bf (bL P H nx e) λp H nx=>cW P H nx t (some p) x k) nx0 H0 R:=by
 rw[ik hz];have hg:(Ev.set H (bits nx) (some (ca l e))).get (bits nx)=some (ca l e):=by rw[get_at,if_pos rfl]
 have e1:cW P (Ev.set H (bits nx) (some (ca l e))) (nx+1) t (some (iJ nx)) x k=k (Ev.set (Ev.set H (bits nx) (some (ca l e))) (bits nx) (some .dead)) (nx+1+1):=by
  show j7 ((Ev.set H (bits nx) (some (ca l e))).get (bits nx)) (λn _ _=>af (aE P t) (λs=>bif Nat.beq 0 0&&(Nat.beq n s&&(Nat.beq x.cells.toList.length s&&x.cells.toList.all ah))then
   cm (bits nx) (Ev.set H (bits nx) (some (ca l e))) (some .dead) λH=>Ev.bD (Nat.succ (nx+1)) λn=>k H n else .bad) .bad)=_
  rw[hg];show af (aE P t) (λs=>bif Nat.beq 0 0&&(Nat.beq l.length s&&(Nat.beq x.cells.toList.length s&&x.cells.toList.all ah))then
   cm (bits nx) (Ev.set H (bits nx) (some (ca l e))) (some .dead) λH=>Ev.bD (Nat.succ (nx+1)) λn=>k H n else .bad) .bad=_
  rw[hs,aw,hl,hx,hone,aA,aG];have e2:Nat.beq s s=true:=Nat.beq_refl s;rw[e2];rfl
 rw[e1];exact hk _ _ ((((h.set h.1 _).succ).set h.1 _).succ) (by omega) λb l e hb hi=>(hi.other (by omega) _).other (by omega) _
end
end
end Go.Ev
namespace Go.Proofs.YthjhonhhbddhkaaDoor
open Go.Ev Go.RowKit
noncomputable section
set_option maxRecDepth 100000
set_option linter.unusedVariables false
set_option linter.unusedSimpArgs false
set_option maxHeartbeats 8000000
@[simp] theorem xN (c0 c1 c2 c3:Value):aa P 41 (some (ae (.agg ⟨[c0,c1,c2,c3]⟩))) 0=af (bif ah c0 then some c0 else none) (λx=>some (ae x)) none:=by kernel_rfl
@[simp] theorem xO (c0 c1 c2 c3:Value):aa P 41 (some (ae (.agg ⟨[c0,c1,c2,c3]⟩))) 1=af (bif ah c1 then some c1 else none) (λx=>some (ae x)) none:=by kernel_rfl
@[simp] theorem xP (c0 c1 c2 c3:Value):aa P 41 (some (ae (.agg ⟨[c0,c1,c2,c3]⟩))) 2=af (bif ah c2 then some c2 else none) (λx=>some (ae x)) none:=by kernel_rfl
@[simp] theorem xQ (c0 c1 c2 c3:Value):aa P 41 (some (ae (.agg ⟨[c0,c1,c2,c3]⟩))) 3=af (bif ah c3 then some c3 else none) (λx=>some (ae x)) none:=by kernel_rfl
@[simp] theorem xR (c0 c1 c2 c3 c4 c5:Value):aa P 44 (some (ae (.agg ⟨[c0,c1,c2,c3,c4,c5]⟩))) 0=af (bif ah c0 then some c0 else none) (λx=>some (ae x)) none:=by kernel_rfl
@[simp] theorem xS (c0 c1 c2 c3 c4 c5:Value):aa P 44 (some (ae (.agg ⟨[c0,c1,c2,c3,c4,c5]⟩))) 1=af (bif ah c1 then some c1 else none) (λx=>some (ae x)) none:=by kernel_rfl
@[simp] theorem xT (c0 c1 c2 c3 c4 c5:Value):aa P 44 (some (ae (.agg ⟨[c0,c1,c2,c3,c4,c5]⟩))) 2=af (bif ah c2 then some c2 else none) (λx=>some (ae x)) none:=by kernel_rfl
@[simp] theorem xU (c0 c1 c2 c3 c4 c5:Value):aa P 44 (some (ae (.agg ⟨[c0,c1,c2,c3,c4,c5]⟩))) 3=af (bif ah c3 then some c3 else none) (λx=>some (ae x)) none:=by kernel_rfl
@[simp] theorem xV (c0 c1 c2 c3 c4 c5:Value):aa P 44 (some (ae (.agg ⟨[c0,c1,c2,c3,c4,c5]⟩))) 4=af (bif ah c4 then some c4 else none) (λx=>some (ae x)) none:=by kernel_rfl
@[simp] theorem xW (c0 c1 c2 c3 c4 c5:Value):aa P 44 (some (ae (.agg ⟨[c0,c1,c2,c3,c4,c5]⟩))) 5=af (bif ah c5 then some c5 else none) (λx=>some (ae x)) none:=by kernel_rfl
@[simp] theorem xX (c0 c1 c2:Value):aa P 49 (some (ae (.agg ⟨[c0,c1,c2]⟩))) 0=af (bif ah c0 then some c0 else none) (λx=>some (ae x)) none:=by kernel_rfl
@[simp] theorem xY (c0 c1 c2:Value):aa P 49 (some (ae (.agg ⟨[c0,c1,c2]⟩))) 1=af (bif ah c1 then some c1 else none) (λx=>some (ae x)) none:=by kernel_rfl
@[simp] theorem xZ (c0 c1 c2:Value):aa P 49 (some (ae (.agg ⟨[c0,c1,c2]⟩))) 2=af (bif ah c2 then some c2 else none) (λx=>some (ae x)) none:=by kernel_rfl
@[simp] theorem x_ (c0 c1:Value):aa P 52 (some (ae (.agg ⟨[c0,c1]⟩))) 0=af (bif ah c0 then some c0 else none) (λx=>some (ae x)) none:=by kernel_rfl
@[simp] theorem yb (c0 c1:Value):aa P 52 (some (ae (.agg ⟨[c0,c1]⟩))) 1=af (bif ah c1 then some c1 else none) (λx=>some (ae x)) none:=by kernel_rfl
@[simp] theorem yc (c0 c1 c2 c3 c4 c5 c6 c7 c8 c9 c10 c11 c12 c13 c14 c15 c16:Value):aa P 54 (some (ae (.agg ⟨[c0,c1,c2,c3,c4,c5,c6,c7,c8,c9,c10,c11,c12,c13,c14,c15,c16]⟩))) 0=af (bif ah c0 then some c0 else none) (λx=>some (ae x)) none:=by kernel_rfl
@[simp] theorem yd (c0 c1 c2 c3 c4 c5 c6 c7 c8 c9 c10 c11 c12 c13 c14 c15 c16:Value):aa P 54 (some (ae (.agg ⟨[c0,c1,c2,c3,c4,c5,c6,c7,c8,c9,c10,c11,c12,c13,c14,c15,c16]⟩))) 1=some (ae (.agg ⟨[c1,c2,c3,c4]⟩)):=by kernel_rfl
@[simp] theorem ye (c0 c1 c2 c3 c4 c5 c6 c7 c8 c9 c10 c11 c12 c13 c14 c15 c16:Value):aa P 54 (some (ae (.agg ⟨[c0,c1,c2,c3,c4,c5,c6,c7,c8,c9,c10,c11,c12,c13,c14,c15,c16]⟩))) 2=some (ae (.agg ⟨[c5,c6,c7,c8,c9,c10]⟩)):=by kernel_rfl
@[simp] theorem yf (c0 c1 c2 c3 c4 c5 c6 c7 c8 c9 c10 c11 c12 c13 c14 c15 c16:Value):aa P 54 (some (ae (.agg ⟨[c0,c1,c2,c3,c4,c5,c6,c7,c8,c9,c10,c11,c12,c13,c14,c15,c16]⟩))) 3=af (bif ah c11 then some c11 else none) (λx=>some (ae x)) none:=by kernel_rfl
@[simp] theorem yg (c0 c1 c2 c3 c4 c5 c6 c7 c8 c9 c10 c11 c12 c13 c14 c15 c16:Value):aa P 54 (some (ae (.agg ⟨[c0,c1,c2,c3,c4,c5,c6,c7,c8,c9,c10,c11,c12,c13,c14,c15,c16]⟩))) 4=some (ae (.agg ⟨[c12,c13,c14]⟩)):=by kernel_rfl
@[simp] theorem yh (c0 c1 c2 c3 c4 c5 c6 c7 c8 c9 c10 c11 c12 c13 c14 c15 c16:Value):aa P 54 (some (ae (.agg ⟨[c0,c1,c2,c3,c4,c5,c6,c7,c8,c9,c10,c11,c12,c13,c14,c15,c16]⟩))) 5=some (ae (.agg ⟨[c15,c16]⟩)):=by kernel_rfl
@[simp] theorem yi (c0 c1 c2 c3 c4 c5 c6 c7:Value):aa P 64 (some (ae (.agg ⟨[c0,c1,c2,c3,c4,c5,c6,c7]⟩))) 0=af (bif ah c0 then some c0 else none) (λx=>some (ae x)) none:=by kernel_rfl
@[simp] theorem yj (c0 c1 c2 c3 c4 c5 c6 c7:Value):aa P 64 (some (ae (.agg ⟨[c0,c1,c2,c3,c4,c5,c6,c7]⟩))) 1=af (bif ah c1 then some c1 else none) (λx=>some (ae x)) none:=by kernel_rfl
@[simp] theorem yk (c0 c1 c2 c3 c4 c5 c6 c7:Value):aa P 64 (some (ae (.agg ⟨[c0,c1,c2,c3,c4,c5,c6,c7]⟩))) 2=some (ae (.agg ⟨[c2,c3,c4,c5,c6,c7]⟩)):=by kernel_rfl
@[simp] theorem yl (c0 c1:Value):aa P 68 (some (ae (.agg ⟨[c0,c1]⟩))) 0=af (bif ah c0 then some c0 else none) (λx=>some (ae x)) none:=by kernel_rfl
@[simp] theorem ym (c0 c1:Value):aa P 68 (some (ae (.agg ⟨[c0,c1]⟩))) 1=af (bif ah c1 then some c1 else none) (λx=>some (ae x)) none:=by kernel_rfl
@[simp] theorem yn (c0 c1 c2 c3:Value):aa P 70 (some (ae (.agg ⟨[c0,c1,c2,c3]⟩))) 0=af (bif ah c0 then some c0 else none) (λx=>some (ae x)) none:=by kernel_rfl
@[simp] theorem yo (c0 c1 c2 c3:Value):aa P 70 (some (ae (.agg ⟨[c0,c1,c2,c3]⟩))) 1=af (bif ah c1 then some c1 else none) (λx=>some (ae x)) none:=by kernel_rfl
@[simp] theorem yp (c0 c1 c2 c3:Value):aa P 70 (some (ae (.agg ⟨[c0,c1,c2,c3]⟩))) 2=af (bif ah c2 then some c2 else none) (λx=>some (ae x)) none:=by kernel_rfl
@[simp] theorem yq (c0:Value):aa P 75 (some (ae (.agg ⟨[c0]⟩))) 0=af (bif ah c0 then some c0 else none) (λx=>some (ae x)) none:=by kernel_rfl
@[simp] theorem yr (c0 c1:Value):aa P 79 (some (ae (.agg ⟨[c0,c1]⟩))) 0=af (bif ah c0 then some c0 else none) (λx=>some (ae x)) none:=by kernel_rfl
@[simp] theorem yu (c0 c1:Value):aa P 79 (some (ae (.agg ⟨[c0,c1]⟩))) 1=af (bif ah c1 then some c1 else none) (λx=>some (ae x)) none:=by kernel_rfl
@[simp] theorem yv (c0 c1 c2:Value):aa P 84 (some (ae (.agg ⟨[c0,c1,c2]⟩))) 0=af (bif ah c0 then some c0 else none) (λx=>some (ae x)) none:=by kernel_rfl
@[simp] theorem yw (c0 c1 c2:Value):aa P 84 (some (ae (.agg ⟨[c0,c1,c2]⟩))) 1=af (bif ah c1 then some c1 else none) (λx=>some (ae x)) none:=by kernel_rfl
@[simp] theorem yx (c0 c1 c2:Value):aa P 84 (some (ae (.agg ⟨[c0,c1,c2]⟩))) 2=af (bif ah c2 then some c2 else none) (λx=>some (ae x)) none:=by kernel_rfl
@[simp] theorem yy (c0 c1:Value):aa P 88 (some (ae (.agg ⟨[c0,c1]⟩))) 0=af (bif ah c0 then some c0 else none) (λx=>some (ae x)) none:=by kernel_rfl
@[simp] theorem yz (c0 c1:Value):aa P 88 (some (ae (.agg ⟨[c0,c1]⟩))) 1=af (bif ah c1 then some c1 else none) (λx=>some (ae x)) none:=by kernel_rfl
@[simp] theorem uG (c0 c1:Value):aa P 145 (some (ae (.agg ⟨[c0,c1]⟩))) 0=af (bif ah c0 then some c0 else none) (λx=>some (ae x)) none:=by kernel_rfl
@[simp] theorem uH (c0 c1:Value):aa P 145 (some (ae (.agg ⟨[c0,c1]⟩))) 1=af (bif ah c1 then some c1 else none) (λx=>some (ae x)) none:=by kernel_rfl
@[simp] theorem yA (b:Nat):aa P 41 (some (.pointer (some ⟨b,0,none⟩))) 0=some (.pointer (some ⟨b,0,none⟩)):=by kernel_rfl
@[simp] theorem yB (b:Nat):aa P 41 (some (.pointer (some ⟨b,0,none⟩))) 1=some (.pointer (some ⟨b,1,none⟩)):=by kernel_rfl
@[simp] theorem yC (b:Nat):aa P 41 (some (.pointer (some ⟨b,0,none⟩))) 2=some (.pointer (some ⟨b,2,none⟩)):=by kernel_rfl
@[simp] theorem yD (b:Nat):aa P 41 (some (.pointer (some ⟨b,0,none⟩))) 3=some (.pointer (some ⟨b,3,none⟩)):=by kernel_rfl
@[simp] theorem yE (b:Nat):aa P 44 (some (.pointer (some ⟨b,0,none⟩))) 0=some (.pointer (some ⟨b,0,none⟩)):=by kernel_rfl
@[simp] theorem yF (b:Nat):aa P 44 (some (.pointer (some ⟨b,0,none⟩))) 1=some (.pointer (some ⟨b,1,none⟩)):=by kernel_rfl
@[simp] theorem yG (b:Nat):aa P 44 (some (.pointer (some ⟨b,0,none⟩))) 2=some (.pointer (some ⟨b,2,none⟩)):=by kernel_rfl
@[simp] theorem yH (b:Nat):aa P 44 (some (.pointer (some ⟨b,0,none⟩))) 3=some (.pointer (some ⟨b,3,none⟩)):=by kernel_rfl
@[simp] theorem yI (b:Nat):aa P 44 (some (.pointer (some ⟨b,0,none⟩))) 4=some (.pointer (some ⟨b,4,none⟩)):=by kernel_rfl
@[simp] theorem yJ (b:Nat):aa P 44 (some (.pointer (some ⟨b,0,none⟩))) 5=some (.pointer (some ⟨b,5,none⟩)):=by kernel_rfl
@[simp] theorem yK (b:Nat):aa P 49 (some (.pointer (some ⟨b,0,none⟩))) 0=some (.pointer (some ⟨b,0,none⟩)):=by kernel_rfl
@[simp] theorem yL (b:Nat):aa P 49 (some (.pointer (some ⟨b,0,none⟩))) 1=some (.pointer (some ⟨b,1,none⟩)):=by kernel_rfl
@[simp] theorem yM (b:Nat):aa P 49 (some (.pointer (some ⟨b,0,none⟩))) 2=some (.pointer (some ⟨b,2,none⟩)):=by kernel_rfl
@[simp] theorem yN (b:Nat):aa P 52 (some (.pointer (some ⟨b,0,none⟩))) 0=some (.pointer (some ⟨b,0,none⟩)):=by kernel_rfl
@[simp] theorem yO (b:Nat):aa P 52 (some (.pointer (some ⟨b,0,none⟩))) 1=some (.pointer (some ⟨b,1,none⟩)):=by kernel_rfl
@[simp] theorem yP (b:Nat):aa P 54 (some (.pointer (some ⟨b,0,none⟩))) 0=some (.pointer (some ⟨b,0,none⟩)):=by kernel_rfl
@[simp] theorem yQ (b:Nat):aa P 54 (some (.pointer (some ⟨b,0,none⟩))) 1=some (.pointer (some ⟨b,1,none⟩)):=by kernel_rfl
@[simp] theorem yR (b:Nat):aa P 54 (some (.pointer (some ⟨b,0,none⟩))) 2=some (.pointer (some ⟨b,5,none⟩)):=by kernel_rfl
@[simp] theorem yS (b:Nat):aa P 54 (some (.pointer (some ⟨b,0,none⟩))) 3=some (.pointer (some ⟨b,11,none⟩)):=by kernel_rfl
@[simp] theorem yT (b:Nat):aa P 54 (some (.pointer (some ⟨b,0,none⟩))) 4=some (.pointer (some ⟨b,12,none⟩)):=by kernel_rfl
@[simp] theorem yU (b:Nat):aa P 54 (some (.pointer (some ⟨b,0,none⟩))) 5=some (.pointer (some ⟨b,15,none⟩)):=by kernel_rfl
@[simp] theorem yV (b:Nat):aa P 64 (some (.pointer (some ⟨b,0,none⟩))) 0=some (.pointer (some ⟨b,0,none⟩)):=by kernel_rfl
@[simp] theorem yW (b:Nat):aa P 64 (some (.pointer (some ⟨b,0,none⟩))) 1=some (.pointer (some ⟨b,1,none⟩)):=by kernel_rfl
@[simp] theorem yX (b:Nat):aa P 64 (some (.pointer (some ⟨b,0,none⟩))) 2=some (.pointer (some ⟨b,2,none⟩)):=by kernel_rfl
@[simp] theorem yY (b:Nat):aa P 68 (some (.pointer (some ⟨b,0,none⟩))) 0=some (.pointer (some ⟨b,0,none⟩)):=by kernel_rfl
@[simp] theorem yZ (b:Nat):aa P 68 (some (.pointer (some ⟨b,0,none⟩))) 1=some (.pointer (some ⟨b,1,none⟩)):=by kernel_rfl
@[simp] theorem y3 (b:Nat):aa P 70 (some (.pointer (some ⟨b,0,none⟩))) 0=some (.pointer (some ⟨b,0,none⟩)):=by kernel_rfl
@[simp] theorem y4 (b:Nat):aa P 70 (some (.pointer (some ⟨b,0,none⟩))) 1=some (.pointer (some ⟨b,1,none⟩)):=by kernel_rfl
@[simp] theorem y5 (b:Nat):aa P 70 (some (.pointer (some ⟨b,0,none⟩))) 2=some (.pointer (some ⟨b,2,none⟩)):=by kernel_rfl
@[simp] theorem y6 (b:Nat):aa P 70 (some (.pointer (some ⟨b,0,none⟩))) 3=some (.pointer (some ⟨b,3,none⟩)):=by kernel_rfl
@[simp] theorem y7 (b:Nat):aa P 75 (some (.pointer (some ⟨b,0,none⟩))) 0=some (.pointer (some ⟨b,0,none⟩)):=by kernel_rfl
@[simp] theorem y8 (b:Nat):aa P 79 (some (.pointer (some ⟨b,0,none⟩))) 0=some (.pointer (some ⟨b,0,none⟩)):=by kernel_rfl
@[simp] theorem y9 (b:Nat):aa P 79 (some (.pointer (some ⟨b,0,none⟩))) 1=some (.pointer (some ⟨b,1,none⟩)):=by kernel_rfl
@[simp] theorem y_ (b:Nat):aa P 84 (some (.pointer (some ⟨b,0,none⟩))) 0=some (.pointer (some ⟨b,0,none⟩)):=by kernel_rfl
@[simp] theorem za (b:Nat):aa P 84 (some (.pointer (some ⟨b,0,none⟩))) 1=some (.pointer (some ⟨b,1,none⟩)):=by kernel_rfl
@[simp] theorem zb (b:Nat):aa P 84 (some (.pointer (some ⟨b,0,none⟩))) 2=some (.pointer (some ⟨b,2,none⟩)):=by kernel_rfl
@[simp] theorem zc (b:Nat):aa P 88 (some (.pointer (some ⟨b,0,none⟩))) 0=some (.pointer (some ⟨b,0,none⟩)):=by kernel_rfl
@[simp] theorem zd (b:Nat):aa P 88 (some (.pointer (some ⟨b,0,none⟩))) 1=some (.pointer (some ⟨b,1,none⟩)):=by kernel_rfl
@[simp] theorem uI (b:Nat):aa P 145 (some (.pointer (some ⟨b,0,none⟩))) 0=some (.pointer (some ⟨b,0,none⟩)):=by kernel_rfl
@[simp] theorem uJ (b:Nat):aa P 145 (some (.pointer (some ⟨b,0,none⟩))) 1=some (.pointer (some ⟨b,1,none⟩)):=by kernel_rfl
@[simp] theorem ze (c0 c1 c2 c3:Value):rdField P 70 (some (.agg ⟨[c0,c1,c2,c3]⟩)) 0=some c0:=by kernel_rfl
@[simp] theorem zf (c0 c1 c2 c3:Value):rdField P 70 (some (.agg ⟨[c0,c1,c2,c3]⟩)) 1=some c1:=by kernel_rfl
@[simp] theorem zg (c0 c1 c2 c3:Value):rdField P 70 (some (.agg ⟨[c0,c1,c2,c3]⟩)) 2=some c2:=by kernel_rfl
@[simp] theorem zh (c0 c1 c2 c3:Value):rdField P 70 (some (.agg ⟨[c0,c1,c2,c3]⟩)) 3=some c3:=by kernel_rfl
@[simp] theorem LF (H:T OB) (u:Value):aj P H 2 (some (ae u))=o7 (some false) (some 1) u:=by kernel_rfl
@[simp] theorem LG (H:T OB) (u:Value):aj P H 3 (some (ae u))=o7 (some false) (some 1) u:=by kernel_rfl
@[simp] theorem LH (H:T OB) (u:Value):aj P H 4 (some (ae u))=o7 (some false) (some 1) u:=by kernel_rfl
@[simp] theorem LI (H:T OB) (u:Value):aj P H 9 (some (ae u))=o7 (some false) (some 1) u:=by kernel_rfl
@[simp] theorem Hn (H:T OB) (u:Value):aj P H 23 (some (ae u))=o7 (some false) (some 1) u:=by kernel_rfl
@[simp] theorem Ho (H:T OB) (u:Value):aj P H 24 (some (ae u))=o7 (some false) (some 1) u:=by kernel_rfl
@[simp] theorem Hr (H:T OB) (u:Value):aj P H 35 (some (ae u))=o7 (some false) (some 1) u:=by kernel_rfl
@[simp] theorem Hs (H:T OB) (u:Value):aj P H 39 (some (ae u))=o7 (some false) (some 1) u:=by kernel_rfl
@[simp] theorem Cp (H:T OB) (c0 c1 c2 c3:Value):aj P H 41 (some (ae (.agg ⟨[c0,c1,c2,c3]⟩)))=some (.agg ⟨[c0,c1,c2,c3]⟩):=by kernel_rfl
@[simp] theorem Ht (H:T OB) (u:Value):aj P H 42 (some (ae u))=o7 (some false) (some 1) u:=by kernel_rfl
@[simp] theorem Cq (H:T OB) (c0 c1 c2 c3 c4 c5:Value):aj P H 44 (some (ae (.agg ⟨[c0,c1,c2,c3,c4,c5]⟩)))=some (.agg ⟨[c0,c1,c2,c3,c4,c5]⟩):=by kernel_rfl
@[simp] theorem Hu (H:T OB) (u:Value):aj P H 45 (some (ae u))=o7 (some false) (some 1) u:=by kernel_rfl
@[simp] theorem Hv (H:T OB) (u:Value):aj P H 46 (some (ae u))=o7 (some false) (some 1) u:=by kernel_rfl
@[simp] theorem Hw (H:T OB) (u:Value):aj P H 47 (some (ae u))=o7 (some false) (some 1) u:=by kernel_rfl
@[simp] theorem Hx (H:T OB) (c0 c1 c2:Value):aj P H 49 (some (ae (.agg ⟨[c0,c1,c2]⟩)))=some (.agg ⟨[c0,c1,c2]⟩):=by kernel_rfl
@[simp] theorem Hy (H:T OB) (u:Value):aj P H 50 (some (ae u))=o7 (some false) (some 1) u:=by kernel_rfl
@[simp] theorem Hz (H:T OB) (c0 c1:Value):aj P H 52 (some (ae (.agg ⟨[c0,c1]⟩)))=some (.agg ⟨[c0,c1]⟩):=by kernel_rfl
@[simp] theorem Cr (H:T OB) (c0 c1 c2 c3 c4 c5 c6 c7 c8 c9 c10 c11 c12 c13 c14 c15 c16:Value):aj P H 54 (some (ae (.agg ⟨[c0,c1,c2,c3,c4,c5,c6,c7,c8,c9,c10,c11,c12,c13,c14,c15,c16]⟩)))=some (.agg ⟨[c0,c1,c2,c3,c4,c5,c6,c7,c8,c9,c10,c11,c12,c13,c14,c15,c16]⟩):=by kernel_rfl
@[simp] theorem HA (H:T OB) (c0 c1 c2 c3 c4 c5 c6 c7:Value):aj P H 64 (some (ae (.agg ⟨[c0,c1,c2,c3,c4,c5,c6,c7]⟩)))=some (.agg ⟨[c0,c1,c2,c3,c4,c5,c6,c7]⟩):=by kernel_rfl
@[simp] theorem HB (H:T OB) (c0 c1 c2 c3:Value):aj P H 70 (some (ae (.agg ⟨[c0,c1,c2,c3]⟩)))=some (.agg ⟨[c0,c1,c2,c3]⟩):=by kernel_rfl
@[simp] theorem HC (H:T OB) (c0 c1 c2:Value):aj P H 84 (some (ae (.agg ⟨[c0,c1,c2]⟩)))=some (.agg ⟨[c0,c1,c2]⟩):=by kernel_rfl
@[simp] theorem Cs (H:T OB) (c0 c1 c2 c3 c4 c5 c6 c7 c8 c9 c10 c11 c12 c13 c14 c15 c16 c17 c18 c19 c20 c21:Value):aj P H 103 (some (ae (.agg ⟨[c0,c1,c2,c3,c4,c5,c6,c7,c8,c9,c10,c11,c12,c13,c14,c15,c16,c17,c18,c19,c20,c21]⟩)))=some (.agg ⟨[c0,c1,c2,c3,c4,c5,c6,c7,c8,c9,c10,c11,c12,c13,c14,c15,c16,c17,c18,c19,c20,c21]⟩):=by kernel_rfl
@[simp] theorem Ct (H:T OB) (c0 c1 c2 c3 c4 c5 c6:Value):aj P H 140 (some (ae (.agg ⟨[c0,c1,c2,c3,c4,c5,c6]⟩)))=some (.agg ⟨[c0,c1,c2,c3,c4,c5,c6]⟩):=by kernel_rfl
theorem LJ {es:List Value}{i:Nat}{u:Value}(h:es[i]? = some u)(k:IntKind):aT P 23 (some (aP 17 es)) (some (.int k (i:Int)))=some (ae u):=cY (by kernel_rfl) h k
theorem HD {es:List Value}{i:Nat}{u:Value}(h:es[i]? = some u)(k:IntKind):aT P 35 (some (aP 4 es)) (some (.int k (i:Int)))=some (ae u):=cY (by kernel_rfl) h k
theorem Cu {es:List Value}{i:Nat}{u:Value}(h:es[i]? = some u)(k:IntKind):aT P 39 (some (aP 4 es)) (some (.int k (i:Int)))=some (ae u):=cY (by kernel_rfl) h k
theorem LK {es:List Value}{i:Nat}{u:Value}(h:es[i]? = some u)(k:IntKind):aT P 42 (some (aP 6 es)) (some (.int k (i:Int)))=some (ae u):=cY (by kernel_rfl) h k
theorem LL {es:List Value}{i:Nat}{u:Value}(h:es[i]? = some u)(k:IntKind):aT P 45 (some (aP 8 es)) (some (.int k (i:Int)))=some (ae u):=cY (by kernel_rfl) h k
theorem LM {es:List Value}{i:Nat}{u:Value}(h:es[i]? = some u)(k:IntKind):aT P 46 (some (aP 1 es)) (some (.int k (i:Int)))=some (ae u):=cY (by kernel_rfl) h k
theorem LN {es:List Value}{i:Nat}{u:Value}(h:es[i]? = some u)(k:IntKind):aT P 47 (some (aP 2 es)) (some (.int k (i:Int)))=some (ae u):=cY (by kernel_rfl) h k
theorem Cv {es:List Value}{i:Nat}{u:Value}(h:es[i]? = some u)(k:IntKind):aT P 50 (some (aP 3 es)) (some (.int k (i:Int)))=some (ae u):=cY (by kernel_rfl) h k
theorem Cw {b off len c i:Nat}(h:i<len)(k:IntKind):aT P 46 (some (.slice (some ⟨b,off,none⟩) len c)) (some (.int k (i:Int)))=some (.pointer (some ⟨b,off+i*1,none⟩)):=we (by kernel_rfl) h k
theorem fu:P.underlying 23=some (.slice 54):=by kernel_rfl
theorem rV:P.underlying 35=some (.slice 70):=by kernel_rfl
theorem dr:P.underlying 39=some (.slice 41):=by kernel_rfl
theorem eg:P.underlying 42=some (.slice 44):=by kernel_rfl
theorem ou:P.underlying 45=some (.slice 64):=by kernel_rfl
theorem ov:P.underlying 46=some (.slice 9):=by kernel_rfl
theorem ow:P.underlying 47=some (.slice 52):=by kernel_rfl
theorem eN:P.underlying 50=some (.slice 84):=by kernel_rfl
theorem wg:P.underlying 92=some (.slice 5):=by kernel_rfl
@[simp] theorem HE (s:ByteArray) (ty:TypeId):bJ P #[9] ty (some [.string s])=some (.int .i64 (s.size:Int)):=aN s (by kernel_rfl)
@[simp] theorem Cx (s:Nat) (es:List Value) (ty:TypeId):bJ P #[23] ty (some [aP s es])=some (.int .i64 (es.length:Int)):=dn s es (by kernel_rfl)
@[simp] theorem zi (ty:TypeId) (a:Addr) (n c:Nat):bJ P #[23] ty (some [.slice (some a) n c])=some (.int .i64 (n:Int)):=d_ (by kernel_rfl)
@[simp] theorem zj (ty:TypeId):bJ P #[23] ty (some [.slice none 0 0])=some (.int .i64 0):=by kernel_rfl
@[simp] theorem Cy (s:Nat) (es:List Value) (ty:TypeId):bJ P #[35] ty (some [aP s es])=some (.int .i64 (es.length:Int)):=dn s es (by kernel_rfl)
@[simp] theorem zk (ty:TypeId) (a:Addr) (n c:Nat):bJ P #[35] ty (some [.slice (some a) n c])=some (.int .i64 (n:Int)):=d_ (by kernel_rfl)
@[simp] theorem zl (ty:TypeId):bJ P #[35] ty (some [.slice none 0 0])=some (.int .i64 0):=by kernel_rfl
@[simp] theorem Cz (s:Nat) (es:List Value) (ty:TypeId):bJ P #[39] ty (some [aP s es])=some (.int .i64 (es.length:Int)):=dn s es (by kernel_rfl)
@[simp] theorem zm (ty:TypeId) (a:Addr) (n c:Nat):bJ P #[39] ty (some [.slice (some a) n c])=some (.int .i64 (n:Int)):=d_ (by kernel_rfl)
@[simp] theorem zn (ty:TypeId):bJ P #[39] ty (some [.slice none 0 0])=some (.int .i64 0):=by kernel_rfl
@[simp] theorem CA (s:Nat) (es:List Value) (ty:TypeId):bJ P #[42] ty (some [aP s es])=some (.int .i64 (es.length:Int)):=dn s es (by kernel_rfl)
@[simp] theorem zo (ty:TypeId) (a:Addr) (n c:Nat):bJ P #[42] ty (some [.slice (some a) n c])=some (.int .i64 (n:Int)):=d_ (by kernel_rfl)
@[simp] theorem zp (ty:TypeId):bJ P #[42] ty (some [.slice none 0 0])=some (.int .i64 0):=by kernel_rfl
@[simp] theorem CB (s:Nat) (es:List Value) (ty:TypeId):bJ P #[45] ty (some [aP s es])=some (.int .i64 (es.length:Int)):=dn s es (by kernel_rfl)
@[simp] theorem zq (ty:TypeId) (a:Addr) (n c:Nat):bJ P #[45] ty (some [.slice (some a) n c])=some (.int .i64 (n:Int)):=d_ (by kernel_rfl)
@[simp] theorem zr (ty:TypeId):bJ P #[45] ty (some [.slice none 0 0])=some (.int .i64 0):=by kernel_rfl
@[simp] theorem CC (s:Nat) (es:List Value) (ty:TypeId):bJ P #[46] ty (some [aP s es])=some (.int .i64 (es.length:Int)):=dn s es (by kernel_rfl)
@[simp] theorem zt (ty:TypeId) (a:Addr) (n c:Nat):bJ P #[46] ty (some [.slice (some a) n c])=some (.int .i64 (n:Int)):=d_ (by kernel_rfl)
@[simp] theorem zu (ty:TypeId):bJ P #[46] ty (some [.slice none 0 0])=some (.int .i64 0):=by kernel_rfl
@[simp] theorem CD (s:Nat) (es:List Value) (ty:TypeId):bJ P #[47] ty (some [aP s es])=some (.int .i64 (es.length:Int)):=dn s es (by kernel_rfl)
@[simp] theorem zv (ty:TypeId) (a:Addr) (n c:Nat):bJ P #[47] ty (some [.slice (some a) n c])=some (.int .i64 (n:Int)):=d_ (by kernel_rfl)
@[simp] theorem zw (ty:TypeId):bJ P #[47] ty (some [.slice none 0 0])=some (.int .i64 0):=by kernel_rfl
@[simp] theorem CF (s:Nat) (es:List Value) (ty:TypeId):bJ P #[50] ty (some [aP s es])=some (.int .i64 (es.length:Int)):=dn s es (by kernel_rfl)
@[simp] theorem zx (ty:TypeId) (a:Addr) (n c:Nat):bJ P #[50] ty (some [.slice (some a) n c])=some (.int .i64 (n:Int)):=d_ (by kernel_rfl)
@[simp] theorem zy (ty:TypeId):bJ P #[50] ty (some [.slice none 0 0])=some (.int .i64 0):=by kernel_rfl
@[simp] theorem CG (s:Nat) (es:List Value) (ty:TypeId):bJ P #[92] ty (some [aP s es])=some (.int .i64 (es.length:Int)):=dn s es (by kernel_rfl)
@[simp] theorem zz (ty:TypeId) (a:Addr) (n c:Nat):bJ P #[92] ty (some [.slice (some a) n c])=some (.int .i64 (n:Int)):=d_ (by kernel_rfl)
@[simp] theorem zA (ty:TypeId):bJ P #[92] ty (some [.slice none 0 0])=some (.int .i64 0):=by kernel_rfl
theorem Je:bn P 3=some [(.int .i64 0)]:=by kernel_rfl
theorem Fo:bn P 23=some [(.slice none 0 0)]:=by kernel_rfl
theorem Fp:bn P 24=some [(.int .i64 0)]:=by kernel_rfl
theorem cv:bn P 41=some [(.int .i64 0),(.int .i64 0),(.string ⟨⟨[]⟩⟩),(.slice none 0 0)]:=by kernel_rfl
theorem br:bn P 44=some [(.int .i64 0),(.int .i64 0),(.string ⟨⟨[]⟩⟩),(.slice none 0 0),(.slice none 0 0),(.slice none 0 0)]:=by kernel_rfl
theorem Fq:bn P 49=some [(.slice none 0 0),(.string ⟨⟨[]⟩⟩),(.slice none 0 0)]:=by kernel_rfl
theorem iq:bn P 52=some [(.string ⟨⟨[]⟩⟩),(.slice none 0 0)]:=by kernel_rfl
theorem de:bn P 54=some [(.int .i64 0),(.int .i64 0),(.int .i64 0),(.string ⟨⟨[]⟩⟩),(.slice none 0 0),(.int .i64 0),(.int .i64 0),(.string ⟨⟨[]⟩⟩),(.slice none 0 0),(.slice none 0 0),(.slice none 0 0),(.slice none 0 0),(.slice none 0 0),(.string ⟨⟨[]⟩⟩),(.slice none 0 0),(.string ⟨⟨[]⟩⟩),(.slice none 0 0)]:=by kernel_rfl
theorem ir:bn P 64=some [(.string ⟨⟨[]⟩⟩),(.slice none 0 0),(.int .i64 0),(.int .i64 0),(.string ⟨⟨[]⟩⟩),(.slice none 0 0),(.slice none 0 0),(.slice none 0 0)]:=by kernel_rfl
theorem dR:bn P 70=some [(.int .i64 0),(.string ⟨⟨[]⟩⟩),(.int .i64 0),(.int .i64 0)]:=by kernel_rfl
theorem Fs:bn P 75=some [(.int .i64 0)]:=by kernel_rfl
theorem cN:bn P 84=some [(.int .i64 0),(.string ⟨⟨[]⟩⟩),(.slice none 0 0)]:=by kernel_rfl
theorem CH:bn P 145=some [(.string ⟨⟨[]⟩⟩),(.int .i64 0)]:=by kernel_rfl
theorem qL:cH P 3=some false:=by kernel_rfl
theorem ox:cH P 9=some false:=by kernel_rfl
theorem kl:cH P 23=some false:=by kernel_rfl
theorem rW:cH P 24=some false:=by kernel_rfl
theorem Jf:cH P 35=some false:=by kernel_rfl
theorem iu:cH P 39=some false:=by kernel_rfl
theorem eh:cH P 41=some true:=by kernel_rfl
theorem iv:cH P 42=some false:=by kernel_rfl
theorem cS:cH P 44=some true:=by kernel_rfl
theorem wh:cH P 45=some false:=by kernel_rfl
theorem rX:cH P 46=some false:=by kernel_rfl
theorem wi:cH P 47=some false:=by kernel_rfl
theorem Jg:cH P 49=some true:=by kernel_rfl
theorem wj:cH P 50=some false:=by kernel_rfl
theorem rY:cH P 52=some true:=by kernel_rfl
theorem iw:cH P 54=some true:=by kernel_rfl
theorem wk:cH P 64=some true:=by kernel_rfl
theorem wm:cH P 70=some true:=by kernel_rfl
theorem km:cH P 84=some true:=by kernel_rfl
theorem Ft:cH P 103=some true:=by kernel_rfl
theorem LO:aE P 2=some 1:=by kernel_rfl
theorem jJ:aE P 3=some 1:=by kernel_rfl
theorem LP:aE P 5=some 1:=by kernel_rfl
theorem jK:aE P 9=some 1:=by kernel_rfl
theorem qM:aE P 23=some 1:=by kernel_rfl
theorem zB:aE P 24=some 1:=by kernel_rfl
theorem zC:aE P 39=some 1:=by kernel_rfl
theorem cL:aE P 41=some 4:=by kernel_rfl
theorem zD:aE P 42=some 1:=by kernel_rfl
theorem bM:aE P 44=some 6:=by kernel_rfl
theorem LQ:aE P 45=some 1:=by kernel_rfl
theorem CI:aE P 46=some 1:=by kernel_rfl
theorem HF:aE P 47=some 1:=by kernel_rfl
theorem LS:aE P 49=some 3:=by kernel_rfl
theorem HG:aE P 50=some 1:=by kernel_rfl
theorem k_:aE P 52=some 2:=by kernel_rfl
theorem e6:aE P 54=some 17:=by kernel_rfl
theorem mw:aE P 64=some 8:=by kernel_rfl
theorem fN:aE P 70=some 4:=by kernel_rfl
theorem LU:aE P 75=some 1:=by kernel_rfl
theorem dz:aE P 84=some 3:=by kernel_rfl
theorem Jh:aE P 103=some 22:=by kernel_rfl
theorem Ji:aE P 145=some 2:=by kernel_rfl
theorem cT {α:Type}(a b:α):(bif true then a else b)=a:=rfl
theorem cF {α:Type}(a b:α):(bif false then a else b)=b:=rfl
theorem eS {α:Type}(a:α):(a=a)=True:=eq_self a
theorem lN {α:Type}:([]:List α).length=0:=rfl
theorem LV (op:BinOp)(ty:TypeId)(b:Bool)(x y:Value)(H:T OB)(k:Value->Q):pB op ty b x y H k=af (bX P H op ty b (some x) (some y)) k .bad:=rfl
theorem Jj (op:BinOp)(ty:TypeId)(b:Bool)(x y:Value)(H:T OB)(A B:Q):pT op ty b x y H A B=af (bX P H op ty b (some x) (some y)) (λz=>E0 z (λc=>bK c A B) .bad) .bad:=rfl
theorem Jl (ty:TypeId)(x:Value)(H:T OB)(k:Value->Q):pL ty x H k=af (aj P H ty (some x)) k .bad:=rfl
theorem Jm (t:TypeId)(x:Value)(n:Nat)(k:Value->Q):pF t x n k=af (aa P t (some x) n) k .bad:=rfl
theorem LW (t:TypeId)(x:Value)(n:Nat)(ty:TypeId)(H:T OB)(k:Value->Q):pX t x n ty H k=af (aa P t (some x) n) (λa=>af (aj P H ty (some a)) k .bad) .bad:=rfl
theorem LX (t ty:TypeId)(x:Value)(k:Value->Q):pN t ty x k=af (bJ P #[t] ty (some [x])) k .bad:=rfl
theorem LY (t:TypeId)(x y:Value)(k:Value->Q):pA t x y k=af (aT P t (some x) (some y)) k .bad:=rfl
theorem LZ (t:TypeId)(x y:Value)(k:Value->Q):pI t x y k=af (da P t (some x) (some y)) k .bad:=rfl
theorem Jn (x:Value)(n:Nat)(k:Value->Q):pE x n k=af (bo (some x) n) k .bad:=rfl
theorem L0 (x:Value)(k:Value->Q):pY x k=af (kC (some x)) k .bad:=rfl
theorem L1 (t:TypeId)(l:List (Nat×Value))(k:Value->Q):pD t l k=af (aO P t (some l)) k .bad:=rfl
theorem L2 (x:Option Value)(k:Value->Q):pO x k=af x k .bad:=rfl
theorem L3 (x:Value)(A B:Q):pV x A B=E0 x (λc=>bK c A B) .bad:=rfl
theorem Jo (x:Value)(k:Bool->Q):pW x k=E0 x k .bad:=rfl
theorem L4 (f:FuncId)(l:List Value)(H:T OB)(nx:Nat)(k:Value->T OB->Nat->Q):pC f l H nx k=cD (.call f l false none H nx) k h_:=rfl
theorem L5 (v:Value)(H:T OB)(nx:Nat):pR v H nx= .ret ⟨.ret v,false,H,nx⟩:=rfl
theorem Jp (ty:TypeId)(a v:Value)(H:T OB)(nx:Nat)(k:Value->T OB->Nat->Q):pS ty a v H nx k=bf (bY P H nx ty (some a) (some v)) k:=rfl
theorem Jq (ty:TypeId)(H:T OB)(nx:Nat)(k:Value->T OB->Nat->Q):pM ty H nx k=bf (bL P H nx ty) k:=rfl
theorem L7 (t:TypeId)(n:Nat)(l:List (Nat×Value))(H:T OB)(nx:Nat)(k:Value->T OB->Nat->Q):pG t n l H nx k=bf (aF P H nx t n (some l)) k:=rfl
theorem L8 (t:List TypeId)(l:List Value)(H:T OB)(nx:Nat)(k:Value->T OB->Nat->Q):pP t l H nx k=bf (cw P H nx t (some l)) k:=rfl
theorem ab:type_of% (And.intro @cT (And.intro @cF (And.intro @eS (And.intro @lN (And.intro @LV (And.intro @Jj (And.intro @Jl (And.intro @Jm (And.intro @LW (And.intro @LX (And.intro @LY (And.intro @LZ (And.intro @Jn (And.intro @L0 (And.intro @L1 (And.intro @L2 (And.intro @L3 (And.intro @Jo (And.intro @L4 (And.intro @L5 (And.intro @Jp (And.intro @Jq (And.intro @L7 (And.intro @L8 (And.intro @mq (And.intro @jh (And.intro @k0 (And.intro @mr (And.intro @og (And.intro @k8 (And.intro @aw (And.intro @xK (And.intro @xL (And.intro @uC (And.intro @xM (And.intro @Ck (And.intro @uD (And.intro @qB (And.intro @qC (And.intro @qD (And.intro @qE (And.intro @qF (And.intro @qG (And.intro @qH (And.intro @qI (And.intro @qJ (And.intro @oh (And.intro @oi (And.intro @rU (And.intro @om (And.intro @mT (And.intro @nF (And.intro @Bool.not_true (And.intro @Bool.not_false (And.intro @Bool.not_not (And.intro @uF (And.intro @qK (And.intro @ot (And.intro @Cn (And.intro @aM (And.intro @Int.cast_ofNat_Int (And.intro @decide_true (And.intro @decide_false (And.intro @Bool.and_self (And.intro @xN (And.intro @xO (And.intro @xP (And.intro @xQ (And.intro @xR (And.intro @xS (And.intro @xT (And.intro @xU (And.intro @xV (And.intro @xW (And.intro @xX (And.intro @xY (And.intro @xZ (And.intro @x_ (And.intro @yb (And.intro @yc (And.intro @yd (And.intro @ye (And.intro @yf (And.intro @yg (And.intro @yh (And.intro @yi (And.intro @yj (And.intro @yk (And.intro @yl (And.intro @ym (And.intro @yn (And.intro @yo (And.intro @yp (And.intro @yq (And.intro @yr (And.intro @yu (And.intro @yv (And.intro @yw (And.intro @yx (And.intro @yy (And.intro @yz (And.intro @uG (And.intro @uH (And.intro @yA (And.intro @yB (And.intro @yC (And.intro @yD (And.intro @yE (And.intro @yF (And.intro @yG (And.intro @yH (And.intro @yI (And.intro @yJ (And.intro @yK (And.intro @yL (And.intro @yM (And.intro @yN (And.intro @yO (And.intro @yP (And.intro @yQ (And.intro @yR (And.intro @yS (And.intro @yT (And.intro @yU (And.intro @yV (And.intro @yW (And.intro @yX (And.intro @yY (And.intro @yZ (And.intro @y3 (And.intro @y4 (And.intro @y5 (And.intro @y6 (And.intro @y7 (And.intro @y8 (And.intro @y9 (And.intro @y_ (And.intro @za (And.intro @zb (And.intro @zc (And.intro @zd (And.intro @uI (And.intro @uJ (And.intro @ze (And.intro @zf (And.intro @zg (And.intro @zh (And.intro @LF (And.intro @LG (And.intro @LH (And.intro @LI (And.intro @Hn (And.intro @Ho (And.intro @Hr (And.intro @Hs (And.intro @Cp (And.intro @Ht (And.intro @Cq (And.intro @Hu (And.intro @Hv (And.intro @Hw (And.intro @Hx (And.intro @Hy (And.intro @Hz (And.intro @Cr (And.intro @HA (And.intro @HB (And.intro @HC (And.intro @Cs (And.intro @Ct (And.intro @HE (And.intro @Cx (And.intro @zi (And.intro @zj (And.intro @Cy (And.intro @zk (And.intro @zl (And.intro @Cz (And.intro @zm (And.intro @zn (And.intro @CA (And.intro @zo (And.intro @zp (And.intro @CB (And.intro @zq (And.intro @zr (And.intro @CC (And.intro @zt (And.intro @zu (And.intro @CD (And.intro @zv (And.intro @zw (And.intro @CF (And.intro @zx (And.intro @zy (And.intro @CG (And.intro @zz @zA))))))))))))))))))))))))))))))))))))))))))))))))))))))))))))))))))))))))))))))))))))))))))))))))))))))))))))))))))))))))))))))))))))))))))))))))))))))))))))))))))))))))))))))))))))))))))))))))))))):=And.intro @cT (And.intro @cF (And.intro @eS (And.intro @lN (And.intro @LV (And.intro @Jj (And.intro @Jl (And.intro @Jm (And.intro @LW (And.intro @LX (And.intro @LY (And.intro @LZ (And.intro @Jn (And.intro @L0 (And.intro @L1 (And.intro @L2 (And.intro @L3 (And.intro @Jo (And.intro @L4 (And.intro @L5 (And.intro @Jp (And.intro @Jq (And.intro @L7 (And.intro @L8 (And.intro @mq (And.intro @jh (And.intro @k0 (And.intro @mr (And.intro @og (And.intro @k8 (And.intro @aw (And.intro @xK (And.intro @xL (And.intro @uC (And.intro @xM (And.intro @Ck (And.intro @uD (And.intro @qB (And.intro @qC (And.intro @qD (And.intro @qE (And.intro @qF (And.intro @qG (And.intro @qH (And.intro @qI (And.intro @qJ (And.intro @oh (And.intro @oi (And.intro @rU (And.intro @om (And.intro @mT (And.intro @nF (And.intro @Bool.not_true (And.intro @Bool.not_false (And.intro @Bool.not_not (And.intro @uF (And.intro @qK (And.intro @ot (And.intro @Cn (And.intro @aM (And.intro @Int.cast_ofNat_Int (And.intro @decide_true (And.intro @decide_false (And.intro @Bool.and_self (And.intro @xN (And.intro @xO (And.intro @xP (And.intro @xQ (And.intro @xR (And.intro @xS (And.intro @xT (And.intro @xU (And.intro @xV (And.intro @xW (And.intro @xX (And.intro @xY (And.intro @xZ (And.intro @x_ (And.intro @yb (And.intro @yc (And.intro @yd (And.intro @ye (And.intro @yf (And.intro @yg (And.intro @yh (And.intro @yi (And.intro @yj (And.intro @yk (And.intro @yl (And.intro @ym (And.intro @yn (And.intro @yo (And.intro @yp (And.intro @yq (And.intro @yr (And.intro @yu (And.intro @yv (And.intro @yw (And.intro @yx (And.intro @yy (And.intro @yz (And.intro @uG (And.intro @uH (And.intro @yA (And.intro @yB (And.intro @yC (And.intro @yD (And.intro @yE (And.intro @yF (And.intro @yG (And.intro @yH (And.intro @yI (And.intro @yJ (And.intro @yK (And.intro @yL (And.intro @yM (And.intro @yN (And.intro @yO (And.intro @yP (And.intro @yQ (And.intro @yR (And.intro @yS (And.intro @yT (And.intro @yU (And.intro @yV (And.intro @yW (And.intro @yX (And.intro @yY (And.intro @yZ (And.intro @y3 (And.intro @y4 (And.intro @y5 (And.intro @y6 (And.intro @y7 (And.intro @y8 (And.intro @y9 (And.intro @y_ (And.intro @za (And.intro @zb (And.intro @zc (And.intro @zd (And.intro @uI (And.intro @uJ (And.intro @ze (And.intro @zf (And.intro @zg (And.intro @zh (And.intro @LF (And.intro @LG (And.intro @LH (And.intro @LI (And.intro @Hn (And.intro @Ho (And.intro @Hr (And.intro @Hs (And.intro @Cp (And.intro @Ht (And.intro @Cq (And.intro @Hu (And.intro @Hv (And.intro @Hw (And.intro @Hx (And.intro @Hy (And.intro @Hz (And.intro @Cr (And.intro @HA (And.intro @HB (And.intro @HC (And.intro @Cs (And.intro @Ct (And.intro @HE (And.intro @Cx (And.intro @zi (And.intro @zj (And.intro @Cy (And.intro @zk (And.intro @zl (And.intro @Cz (And.intro @zm (And.intro @zn (And.intro @CA (And.intro @zo (And.intro @zp (And.intro @CB (And.intro @zq (And.intro @zr (And.intro @CC (And.intro @zt (And.intro @zu (And.intro @CD (And.intro @zv (And.intro @zw (And.intro @CF (And.intro @zx (And.intro @zy (And.intro @CG (And.intro @zz @zA))))))))))))))))))))))))))))))))))))))))))))))))))))))))))))))))))))))))))))))))))))))))))))))))))))))))))))))))))))))))))))))))))))))))))))))))))))))))))))))))))))))))))))))))))))))))))))))))))))
end
end Go.Proofs.YthjhonhhbddhkaaDoor
