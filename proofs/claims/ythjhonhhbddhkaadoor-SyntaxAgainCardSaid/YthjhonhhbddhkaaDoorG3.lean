/- Texts of this claim, side by side. -/
import Derived.Test.YthjhonhhbddhkaaDoorG2
import Derived.Laws.Strings
import Derived.Test.YthjhonhhbddhkaaDoorProg
import Derived.KernelRfl
namespace Go.Ev
open Go.RowKit (Below)
noncomputable section
set_option maxRecDepth 100000
set_option linter.unusedVariables false
set_option linter.unusedSimpArgs false
section
variable {P:Program}{W w w' w1:World}{f fn:FuncId}{cs cs0:List Frame}{r r1:Rt}{fr fr' fr1:Frame}{φ φ' φ1:cK}{H H' H1:T OB}{nx nx' av nt lo hi:Nat}{tm:T Value}{tmps:Array Value}{ops:Array Oper}
 {todo k:List Item} {c:Cg} {ds:List Deferred} {kd:Bool} {O:bu->Option Rt} {pl:kP}
theorem dD.X6 {rc:Bool}{fr1:Frame}(hm:fr.mode= .run)(hs:step P (lone fr (eK rc cs0) w)= .next (lone fr1 (eK rc cs0) w))(h:dD P W kd fn lo cs0 rc φ H r fr w):dD P W kd fn lo cs0 rc φ H r fr1 w:=by
 obtain⟨φ',w',frl,⟨n,hn⟩,h2,h3,h4,h5,h6,h7,h8⟩:=h;refine⟨φ',w',frl,?_,h2,h3,h4,h5,h6,h7,h8⟩;cases n with
 | zero=>
   exfalso;have hn:Stepped.next (lone fr (eK rc cs0) w)= .next (lone frl (eK r.rc cs0) w'):=hn
   have e:fr.mode=frl.mode:=by
    injection hn with hn
    simp only[lone]at hn
    simp_all
   rw[hm]at e;cases hr:r.o with
   | ret v=>rw[hr]at h8;obtain⟨v',_,hg⟩:=h8;rw[hg.1]at e;cases e
   | gv v=>rw[hr]at h8;obtain⟨v',_,hg⟩:=h8;rw[hg.1]at e;cases e
 | succ n=>
   refine⟨n,?_⟩;simp only[runN,hs]at hn;exact hn
theorem p4 (t:Nat)(v:Value):∀l:List Nat,(uF tm l).get (bits t)=some v->tm.get (bits t)=some v
 | [],h=>by rw[show uF tm []= .leaf from rfl,j7]at h;cases h
 | s::l,h=>by
   have h:(af (tm.get (bits s)) (λv=>dp (bits s) (uF tm l) (some v) id) (uF tm l)).get (bits t)=some v:=h;cases hs:tm.get (bits s)with
   | none=>rw[hs]at h;exact p4 t v l h
   | some u=>
     have h2:(set (uF tm l) (bits s) (some u)).get (bits t)=some v:=by
      rw[hs,ax,aL]at h;exact h
     clear h;rw[get_at]at h2;split at h2
     . rename_i q;subst q;exact hs.trans h2
     . exact p4 t v l h2
theorem Gq {key:Nat}{t:Nat}{v:Value}(h:(zn pl fn key tm).get (bits t)=some v):tm.get (bits t)=some v:=by
 unfold zn at h;split at h
 . exact h
 . cases hl:HJ fn key _ with
   | none=>rw[hl]at h;exact h
   | some l=>rw[hl]at h;exact p4 t v l h
theorem oI.mask {key:Nat}(h:oI P W c (zn pl fn key tm) todo H nx r):oI P W c tm todo H nx r:=λφ w lo tmps ds cs0 x htr=>
 h φ w lo tmps ds cs0 x λt v hv=>htr t v (Gq hv)
theorem oJ (hO:lC P W O)(todo:List Item):C7 P W O (zo pl todo) todo:=λc tm H nx r h=>
 oI.mask (show oI P W c (zn pl c.fn (Q7 todo) tm) todo H nx r from hO _ _ (Io h))
theorem C9 (todo:List Item):C7 P W O Bf todo:=λc tm H nx r h=>(hJ h).elim
def Pj (P:Program)(W:World)(O:bu->Option Rt)(E:List (Nat×Kt))(k:List Item):Prop:=∀id,r_ id E=Bf\/∃k',exitTo id k=some k'/\C7 P W O (r_ id E) k'
theorem Pj.skip {E:List (Nat×Kt)}{it:Item}(h:Pj P W O E k)(hit:∀id,exitTo id (it::k)=exitTo id k):Pj P W O E (it::k):=λj=>(h j).imp (λq=>q) λ⟨k',a,b⟩=>⟨k',(hit j).trans a,b⟩
theorem Pj.block {E:List (Nat×Kt)}{K:Kt}{id:Nat}(h:Pj P W O E k)(hK:C7 P W O K k):Pj P W O ((id,K)::E) (.inBlock id::k):=λj=>by
 have e:r_ j ((id,K)::E)=bif Nat.beq id j then K else r_ j E:=rfl;have e2:exitTo j (.inBlock id::k)=if id == j then some k else exitTo j k:=rfl;rw[e,e2];cases hb:Nat.beq id j with
 | true=>
   have:=beq_eq hb;subst this;exact .inr ⟨k,by simp,hK⟩
 | false=>
   have hne:(id == j)=false:=by
    cases hq:id == j with
    | false=>rfl
    | true=>have:id=j:=by simpa using hq
            subst this;rw[Nat.beq_refl]at hb;cases hb
   rw[hne];exact h j
theorem MK (hO:lC P W O){K:Kt}(hK:C7 P W O K k)(id:Nat)(ops:Array Oper)(draw:Bool):C7 P W O (Q5 P pl ops draw K) (.code (.region id ops draw)::k):=λc tm H nx r h=>by
 unfold Q5 at h;rcases eW h with⟨hd,h1⟩ | ⟨hd,h1⟩
 . rcases eW h1 with⟨hm,h2⟩ | ⟨_,h2⟩
   . obtain⟨p,hp,h3⟩:=bF h2;subst hd;intro φ w lo tmps ds cs0 x htr;have hs:=step_region_draw (P:=P) (b:=dM (cB c ds) #[] []) (a:=⟨tmps,ds⟩) (k:=k) (cs:=eK c.rc cs0) (w:=w) (ops:=ops) (id:=id);rw[hm]at hs;have x':Fx P W lo cs0 c φ H nx tmps ds w.drew:=⟨x.hH.drew,x.b_,x.nh,x.lX,x.we,x.oB⟩;obtain⟨h1,h2⟩:=fW.start (P:=P) (φ:=φ) (H:=H) hp (w.tape w.drawn (.order (dM (cB c ds) #[] []).fn id)) htr lo nx;exact dD.steps (.one hs) φ.le_refl (λ_ _ q=>⟨q,rfl⟩) (sR hO hK p tm H nx φ tmps _ _ _ _ _ h3 x' h1 h2)
   . exact(hJ h2).elim
 . subst hd;exact(l8 hO hK _ c tm H nx r h1).step1 λds tmps cs w=> .one (step_region (b:=dM (cB c ds) #[] []) (a:=⟨tmps,ds⟩))
theorem sS (hO:lC P W O)(cd:Code):∀(k:List Item) (K:Kt) (E:List (Nat×Kt)),C7 P W O K k->Pj P W O E k->C7 P W O (uG P pl cd k K E) (.code cd::k):=by
 induction cd with
 | skip=>exact λk K E hK hE c tm H nx r h=>(hK c tm H nx r h).step1 λds tmps cs w=> .one (step_skip (b:=dM (cB c ds) #[] []) (a:=⟨tmps,ds⟩))
 | label l=>exact λk K E hK hE c tm H nx r h=>(hK c tm H nx r h).step1 λds tmps cs w=> .one (step_label (b:=dM (cB c ds) #[] []) (a:=⟨tmps,ds⟩))
 | ret=>exact λk K E hK hE=>pZ hO (.inr ⟨k,rfl⟩)
 | region id ops draw=>exact λk K E hK hE=>MK hO hK id ops draw
 | seq a b iha ihb=>
   intro k K E hK hE c tm H nx r h;refine oI.step1 (λds tmps cs w=> .one (step_seq (b:=dM (cB c ds) #[] []) (a:=⟨tmps,ds⟩))) (iha (.code b::k) _ E ?_ (hE.skip λ_=>rfl) c tm H nx r h);cases hq:U2 pl a b with
   | true=>exact oJ hO _
   | false=>exact ihb k K E hK hE
 | cond q a b iha ihb=>
   intro k K E hK hE c tm H nx r h φ w lo tmps ds cs0 x htr;have h:(HK (bq P tm q) (uG P pl a k K E c tm H nx) (uG P pl b k K E c tm H nx)).run O=some r:=h;unfold HK at h;split at h
   . rename_i t hx;have he:Act.eval ⟨tmps,ds⟩ q= .bool t:=by
      rw[zK];exact((wb x.hH.gl htr (l:=[q]) Is) q (by simp) _ hx).al rfl
     have hs:=step_cond (P:=P) (b:=dM (cB c ds) #[] []) (a:=⟨tmps,ds⟩) (k:=k) (cs:=eK c.rc cs0) (w:=w) (x:=a) (y:=b) he;rcases eW h with⟨rfl,h⟩ | ⟨rfl,h⟩
     . exact(iha k K E hK hE c tm H nx r h φ w lo tmps ds cs0 x htr).step1 (.one hs)
     . exact(ihb k K E hK hE c tm H nx r h φ w lo tmps ds cs0 x htr).step1 (.one hs)
   . exact(hJ h).elim
 | block id body ih=>
   intro k K E hK hE c tm H nx r h;refine oI.step1 (λds tmps cs w=> .one (step_block (b:=dM (cB c ds) #[] []) (a:=⟨tmps,ds⟩))) (ih (.inBlock id::k) K ((id,K)::E) (λc tm H nx r h=> ?_) (hE.block hK) c tm H nx r h);exact(hK c tm H nx r h).step1 λds tmps cs w=> .one (step_inBlock (b:=dM (cB c ds) #[] []) (a:=⟨tmps,ds⟩))
 | loop body ih=>
   intro k K E hK hE c tm H nx r h φ w lo tmps ds cs0 x htr;have h1:=oJ (pl:=pl) hO (.inLoop body::k) c tm H nx r h φ w lo tmps ds cs0 x htr;exact(h1.X6 rfl (step_inLoop (b:=dM (cB c ds) #[] []) (a:=⟨tmps,ds⟩))).step1 (.one (step_loop (b:=dM (cB c ds) #[] []) (a:=⟨tmps,ds⟩)))
 | scope body ih=>
   intro k K E hK hE c tm H nx r h;refine oI.step1 (λds tmps cs w=> .one (step_scope (b:=dM (cB c ds) #[] []) (a:=⟨tmps,ds⟩))) (ih (.inScope body::k) K E (λc tm H nx r h=> ?_) (hE.skip λ_=>rfl) c tm H nx r h);exact(hK c tm H nx r h).step1 λds tmps cs w=> .one (step_inScope (b:=dM (cB c ds) #[] []) (a:=⟨tmps,ds⟩))
 | exit id=>
   intro k K E hK hE c tm H nx r h;have h:(r_ id E c tm H nx).run O=some r:=h;rcases hE id with q | ⟨k',hk',hK'⟩
   . rw[q]at h;exact(hJ h).elim
   . exact(hK' c tm H nx r h).step1 λds tmps cs w=> .one (step_exit (b:=dM (cB c ds) #[] []) (a:=⟨tmps,ds⟩) hk')
 | _=>exact λk K E hK hE=>C9 _
theorem BI (hO:lC P W O):∀todo:List Item,C7 P W O (XI P pl todo).1 todo/\Pj P W O (XI P pl todo).2 todo
 | []=>⟨pZ hO (.inl rfl),λid=> .inl rfl⟩
 | it::k=>by
   obtain⟨h1,h2⟩:=BI hO k;cases it with
   | code cd=>exact⟨sS hO cd k _ _ h1 h2,h2.skip λ_=>rfl⟩
   | inBlock id=>exact⟨λc tm H nx r h=>(h1 c tm H nx r h).step1 λds tmps cs w=> .one (step_inBlock (b:=dM (cB c ds) #[] []) (a:=⟨tmps,ds⟩)),h2.block h1⟩
   | inScope b=>exact⟨λc tm H nx r h=>(h1 c tm H nx r h).step1 λds tmps cs w=> .one (step_inScope (b:=dM (cB c ds) #[] []) (a:=⟨tmps,ds⟩)),h2.skip λ_=>rfl⟩
   | inLoop body=>exact⟨oJ hO _,h2.skip λ_=>rfl⟩
   | _=>exact⟨C9 _,λid=> .inl rfl⟩
theorem ML (hO:lC P W O)(todo:List Item):C7 P W O (Q8 P pl todo) todo:=by
 unfold Q8;split
 . rename_i body k;intro c tm H nx r h;exact oI.step1 (λds tmps cs w=> .one (step_inLoop (b:=dM (cB c ds) #[] []) (a:=⟨tmps,ds⟩))) (sS hO body _ _ _ (oJ hO _) ((BI hO k).2.skip λ_=>rfl) c tm H nx r h)
 . exact(BI hO todo).1
theorem Rp (hO:lC P W O):∀q r,(aI P pl q).run O=some r->Ir P W q r
 | .at c tm todo H nx,r,h=>ML hO todo c tm H nx r h
 | .call f args kd rp H nx,r,h=>λφ w args' cs0 hH b_ hl oB=>by
   obtain⟨fd,hf,h⟩:=bF (show(af P.funcs[f]? (λfn=>af fn.body (λcd=>X4 P pl f kd rp fn cd args H nx) .bad) .bad).run O=some r from h);obtain⟨cd,hb,h⟩:=bF h;unfold X4 at h;obtain⟨hn,h⟩:=mK h;have hn:=db hn;obtain⟨φ1,us,H1,av,h,hl1,hz⟩:=nL fd.params _ _ _ φ H nx hH b_ hl h;rw[du]at h;have hlen:=hl.len;have hlen1:=hl1.len;have e:Frame.enter P f args'.toArray (kindOf kd)=dM (cB ⟨f,fd.ntmps,kd,[],rp,false⟩ []) (args'.toArray++Array.replicate (fd.ntmps-args'.toArray.size) undef) [.code cd]:=by
    simp[Frame.enter,hf,hb,dM,cB]
   rw[e];have hx:Fx P W nx cs0 ⟨f,fd.ntmps,kd,[],rp,false⟩ φ1 H1 av (args'.toArray++Array.replicate (fd.ntmps-args'.toArray.size) undef) [] w:=⟨hz.2.1,hz.2.2.1,hz.2.2.2.2,by
    show(args'.toArray++Array.replicate (fd.ntmps-args'.toArray.size) undef).size=fd.ntmps;simp only[Array.size_append,List.size_toArray,Array.size_replicate];omega,.nil,oB.mono hz.1⟩
   refine hz.fin (sS hO cd [] _ [] (pZ hO (.inl rfl)) (λid=> .inl rfl) _ _ _ _ r h φ1 w nx _ [] cs0 hx ?_);intro t v hv;rw[dO]at hv;split at hv
   . rename_i ht;rw[Nat.sub_zero]at hv;obtain⟨v',h1,h2⟩:=hl1.get hv;refine .inr ⟨v',?_,h2⟩;have:t<args'.toArray.size:=by simp;omega
     rw[Array.getElem?_append_left this];simpa using h1
   . rw[j7]at hv;cases hv
def zW (P:Program)(W:World)(X:Ext):Prop:=∀f args v,X f args=some v->(∀x∈args,flat x=true)/\flat v=true/\
 ∀w,Below W.heap.size W w->Calls P f args.toArray w λe w'=>e= .returned v/\Below w.heap.size w w'
theorem LR.al {l l':List Value}(h:LR φ l l')(hf:∀x∈l,flat x=true):l'=l:=by
 refine List.ext_getElem? λi=> ?_
 by_cases hi:i<l.length
 . have h5:=List.getElem?_eq_getElem hi;have h6:=List.getElem?_eq_getElem (h.len ▸ hi:i<l'.length);rw[h5,h6,(h.at_ i _ _ h5 h6).al (hf _ (List.getElem_mem hi))]
 . rw[List.getElem?_eq_none (by have:=h.len;omega),List.getElem?_eq_none (by omega)]
theorem Rq {X:Ext}(hX:zW P W X){f:FuncId}{args:List Value}{v:Value}(h:X f args=some v)(rp:Option Value)(H:T OB)(nx:Nat):Ir P W (.call f args false rp H nx) ⟨.ret v,false,H,nx⟩:=λφ w args' cs0 hH b_ hl _=>by
 obtain⟨h1,h2,h3⟩:=hX f args v h;have:=hl.al h1;subst this;obtain⟨e,w',fr,⟨he,hb⟩,hc,hfn,hlv⟩:=h3 w hH.below cs0;subst he;obtain⟨a,b,hk,d⟩:=hlv;exact⟨φ,w',fr,hc,φ.le_refl,hH.grown hb,b_,λk _ q=>⟨q,rfl⟩,hk,hfn,v,.flat v h2,a,b,d⟩
theorem zX {X:Ext}{q:bu}{k:Option Rt}(h:pj X q k=some r):k=some r\/∃f args rp H nx v,q= .call f args false rp H nx/\X f args=some v/\r=⟨.ret v,false,H,nx⟩:=by
 cases q with
 | «at» c tm todo H nx=>exact .inl h
 | call f args kd rp H nx=>
   cases kd with
   | true=>exact .inl h
   | false=>
     have h:@Option.rec Value (λ_=>Option Rt) k (λv=>some ⟨.ret v,false,H,nx⟩) (X f args)=some r:=h;cases hx:X f args with
     | none=>rw[hx]at h;exact .inl h
     | some v=>rw[hx]at h;cases h;exact .inr ⟨f,args,rp,H,nx,v,rfl,hx,rfl⟩
theorem oK (pl:kP)(X:Ext)(n:Nat)(q:bu):FD P pl X (n+1) q=pj X q ((aI P pl q).run (FD P pl X n)):=rfl
theorem Pm {X:Ext}(hX:zW P W X):∀n,lC P W (FD P pl X n)
 | 0,q,r,h=>by cases h
 | n+1,q,r,h=>by
   rw[oK]at h;rcases zX h with h | ⟨f,args,rp,H,nx,v,rfl,hx,rfl⟩
   . exact Rp (Pm hX n) q r h
   . exact Rq hX hx rp H nx
theorem Q.sT {O O':bu->Option Rt}(hO:∀q r,O q=some r->O' q=some r):∀(q:Q) (r:Rt),q.run O=some r->q.run O'=some r:=by
 intro q
 induction q with
 | ret a=>exact λr h=>h
 | bad=>exact λr h=>h
 | jump c=>exact λr h=>hO c r h
 | ask c k ih=>
   intro r h;obtain⟨a,h1,h2⟩:=oG h;show af (O' c) (λa=>(k a).run O') none=some r;rw[hO c a h1];exact ih a r h2
theorem uW {X:Ext}{q:bu}{k k':Option Rt}(hk:∀r,k=some r->k'=some r)(h:pj X q k=some r):pj X q k'=some r:=by
 cases q with
 | «at» c tm todo H nx=>exact hk r h
 | call f args kd rp H nx=>
   cases kd with
   | true=>exact hk r h
   | false=>
     have h:@Option.rec Value (λ_=>Option Rt) k (λv=>some ⟨.ret v,false,H,nx⟩) (X f args)=some r:=h;show @Option.rec Value (λ_=>Option Rt) k' (λv=>some ⟨.ret v,false,H,nx⟩) (X f args)=some r;cases hx:X f args with
     | none=>rw[hx]at h;exact hk r h
     | some v=>rw[hx]at h;exact h
theorem zY {X:Ext}:∀(n:Nat) (q:bu) (r:Rt),FD P pl X n q=some r->FD P pl X (n+1) q=some r
 | 0,q,r,h=>by cases h
 | n+1,q,r,h=>by
   rw[oK]at h ⊢;exact uW (λr h=>Q.sT (zY n) _ r h) h
theorem ru {X:Ext}{n m:Nat}(hn:n<=m){q:bu}{r:Rt}(h:FD P pl X n q=some r):FD P pl X m q=some r:=by
 induction hn with
 | refl=>exact h
 | step _ ih=>exact zY _ q r ih
open Classical in
def F (P:Program)(pl:kP)(X:Ext)(q:bu):Option Rt:=if h:∃r n,FD P pl X n q=some r then some h.choose else none
theorem qE {X:Ext}{q:bu}:F P pl X q=some r↔∃n,FD P pl X n q=some r:=by
 unfold F;constructor
 . intro h;split at h
   . rename_i hx;cases h;exact hx.choose_spec
   . cases h
 . rintro⟨n,hn⟩;have hx:∃r n,FD P pl X n q=some r:=⟨r,n,hn⟩;rw[dif_pos hx];obtain⟨m,hm⟩:=hx.choose_spec;have h1:=ru (Nat.le_max_left n m) hn;have h2:=ru (Nat.le_max_right n m) hm;rw[h1]at h2;cases h2;rfl
theorem Q.MM {X:Ext}:∀(q:Q) (r:Rt),q.run (F P pl X)=some r->∃n,q.run (FD P pl X n)=some r:=by
 intro q
 induction q with
 | ret a=>exact λr h=>⟨0,h⟩
 | bad=>exact λr h=>(hJ h).elim
 | jump c=>exact λr h=>qE.1 h
 | ask c k ih=>
   intro r h;obtain⟨a,h1,h2⟩:=oG h;obtain⟨n,hn⟩:=qE.1 h1;obtain⟨m,hm⟩:=ih a r h2;refine⟨max n m,?_⟩;show af (FD P pl X (max n m) c) (λa=>(k a).run (FD P pl X (max n m))) none=some r;rw[ru (Nat.le_max_left n m) hn];exact Q.sT (λq r h=>ru (Nat.le_max_right n m) h) _ r hm
theorem p5 {X:Ext}(q:bu):F P pl X q=pj X q ((aI P pl q).run (F P pl X)):=by
 have up:∀r,F P pl X q=some r->pj X q ((aI P pl q).run (F P pl X))=some r:=λr h=>by
  obtain⟨n,hn⟩:=qE.1 h;cases n with
  | zero=>cases hn
  | succ n=>
    rw[oK]at hn;exact uW (λr h=>Q.sT (λq r h=>qE.2 ⟨n,h⟩) _ r h) hn
 have down:∀r,pj X q ((aI P pl q).run (F P pl X))=some r->F P pl X q=some r:=λr h=>by
  rcases zX h with h | ⟨f,args,rp,H,nx,v,rfl,hx,rfl⟩
  . obtain⟨n,hn⟩:=Q.MM _ r h;cases hF:pj X q ((aI P pl q).run (FD P pl X n))with
    | none=>
      exfalso;rw[hn]at hF;cases q with
      | «at» c tm todo H nx=>cases hF
      | call f args kd rp H nx=>
        cases kd with
        | true=>cases hF
        | false=>
          have hF:@Option.rec Value (λ_=>Option Rt) (some r) (λv=>some ⟨.ret v,false,H,nx⟩) (X f args)=none:=hF;cases hx:X f args<;>rw[hx]at hF<;>cases hF
    | some r'=>
      have h1:F P pl X q=some r':=qE.2 ⟨n+1,by rw[oK];exact hF⟩;have h2:=up r' h1;have h3:pj X q ((aI P pl q).run (F P pl X))=some r:=by assumption
      rw[h2]at h3;cases h3;exact h1
  . refine qE.2 ⟨1,?_⟩;rw[oK];show @Option.rec Value (λ_=>Option Rt) _ (λv=>some ⟨.ret v,false,H,nx⟩) (X f args)=_;rw[hx]
 cases h:F P pl X q with
 | some r=>exact(up r h).symm
 | none=>
   cases h2:pj X q ((aI P pl q).run (F P pl X))with
   | none=>rfl
   | some r=>rw[down r h2]at h;cases h
theorem X7 {X:Ext}{n:Nat}{q:bu}(h:FD P pl X n q=some r):F P pl X q=some r:=qE.2 ⟨n,h⟩
theorem sU {X:Ext}(hX:zW P W X){f:FuncId}{args args':List Value}{v:Value}{H':T OB}{nx':Nat}(hH:HR P W φ (hp H) W)(b_:φ.length=nx)(hl:LR φ args args')(hv:flat v=true)
 (h:F P pl X (.call f args false none H nx)=some ⟨.ret v,false,H',nx'⟩):Calls P f args'.toArray W λe w'=>e= .returned v/\Below W.heap.size W w':=by
 intro cs;obtain⟨n,hn⟩:=qE.1 h;obtain⟨φ1,w1,frl,s1,hle,hH1,hl1,hk1,hkk,hff,v',hv',hg⟩:=Pm hX n _ _ hn φ W args' cs hH b_ hl (λq=>by cases q);have:=hv'.al hv;subst this;obtain⟨a,b,d⟩:=hg;exact⟨.returned v',w1,frl,⟨rfl,hH1.below⟩,s1,hff,a,b,hkk,d⟩
end
end
end Go.Ev
namespace Go.Ev
noncomputable section
set_option maxRecDepth 100000
set_option linter.unusedVariables false
set_option linter.unusedSimpArgs false
section
def Gr (l:List (Nat×Value)):T Value:=@List.rec (Nat×Value) (λ_=>T Value) .leaf (λp _ ih=>dp (bits p.1) ih (some p.2) id) l
def Rr (cd:Code):List Item->List (List Item):=
 @Code.rec (λ_=>List Item->List (List Item)) (λ_=>[]) (λ_ _ _ _=>[]) (λ_ b iha ihb k=>iha (.code b::k)++((.code b::k)::ihb k)) (λ_ _ _ iha ihb k=>iha k++ihb k) (λid _ ih k=>ih (.inBlock id::k))
  (λb ih k=>(.inLoop b::k)::ih (.inLoop b::k)) (λ_ _ _ _ _ _ _=>[]) (λ_ _=>[]) (λb ih k=>ih (.inScope b::k)) (λ_ _=>[]) (λ_ _=>[]) (λ_=>[]) (λ_ _=>[]) cd
def Vb (key:Nat)(l:List (List Item)):List Item:=@List.rec (List Item) (λ_=>List Item) [] (λt _ ih=>bif Nat.beq (Q7 t) key then t else ih) l
def Iv (P:Program)(f:FuncId)(key:Nat):List Item:=match P.funcs[f]? with
 | some fn=>(match fn.body with
   | some cd=>Vb key (Rr cd [])
   | none=>[])
 | none=>[]
def cV (P:Program)(H:T OB)(nx:Nat)(t:TypeId)(a:Option Value)(v:Value)(k:T OB->Nat->Q):Q:=
 Mt a λb off=>nB (H.get (bits b)) λn _ _=>af (aN P t) (λs=>
  bif Nat.beq off 0&&(Nat.beq n s&&(Nat.beq v.cells.toList.length s&&v.cells.toList.all aj))then dp (bits b) H (some .dead) λH=>bo (Nat.succ nx) λn=>k H n else .bad) .bad
variable {P:Program}{pl:kP}{X:Ext}{H H0 H1:T OB}{nx nx0 av:Nat}{v u:Value}{R:Go.Ev.Out->T OB->Nat->Prop}
def Ag (nx0:Nat)(H0:T OB)(nx:Nat)(H:T OB):Prop:=nx0<=nx/\∀k,k<nx0->hp H k=hp H0 k
theorem Ag.refl (nx:Nat)(H:T OB):Ag nx H nx H:=⟨Nat.le_refl _,λ_ _=>rfl⟩
theorem Ag.trans (h:Ag nx0 H0 nx H)(h':Ag nx H av H1):Ag nx0 H0 av H1:=⟨Nat.le_trans h.1 h'.1,λk hk=>(h'.2 k (Nat.lt_of_lt_of_le hk h.1)).trans (h.2 k hk)⟩
theorem Ag.set (h:Ag nx0 H0 nx H){b:Nat}(hb:nx0<=b)(x:Option OB):Ag nx0 H0 nx (Ev.set H (bits b) x):=⟨h.1,λk hk=>by rw[bw,aK _ (by omega)];exact h.2 k hk⟩
theorem Ag.succ (h:Ag nx0 H0 nx H):Ag nx0 H0 (nx+1) H:=⟨Nat.le_succ_of_le h.1,h.2⟩
def aF (P:Program)(pl:kP)(X:Ext)(q:Q)(nx0:Nat)(H0:T OB)(R:Go.Ev.Out->T OB->Nat->Prop):Prop:=∃o H' nx',Ag nx0 H0 nx' H'/\R o H' nx'/\q.run (F P pl X)=some ⟨o,false,H',nx'⟩
abbrev dJ (P:Program)(pl:kP)(X:Ext)(q:Q)(nx0:Nat)(H0:T OB)(R:Value->T OB->Nat->Prop):Prop:=aF P pl X q nx0 H0 λo H nx=>∃v,o= .ret v/\R v H nx
abbrev Wq (P:Program)(pl:kP)(X:Ext)(q:Q)(nx0:Nat)(H0:T OB)(v:Value):Prop:=dJ P pl X q nx0 H0 λu _ _=>u=v
def Pure (P:Program)(pl:kP)(X:Ext)(f:FuncId)(args:List Value)(v:Value):Prop:=∀H nx,∃H' nx',Ag nx H nx' H'/\F P pl X (.call f args false none H nx)=some ⟨.ret v,false,H',nx'⟩
theorem Pure.of {f:FuncId}{args:List Value}(hx:X f args=none)(h:∀H nx,Wq P pl X (aI P pl (.call f args false none H nx)) nx H v):Pure P pl X f args v:=λH nx=>by
 obtain⟨_,H',nx',h1,⟨_,rfl,rfl⟩,h2⟩:=h H nx;refine⟨H',nx',h1,?_⟩;rw[p5];show @Option.rec Value (λ_=>Option Rt) _ (λv=>some ⟨.ret v,false,H,nx⟩) (X f args)=_;rw[hx];exact h2
theorem Pure.ext {f:FuncId}{args:List Value}(hx:X f args=some v):Pure P pl X f args v:=λH nx=>⟨H,nx,.refl _ _,by
 rw[p5];show @Option.rec Value (λ_=>Option Rt) _ (λv=>some ⟨.ret v,false,H,nx⟩) (X f args)=_;rw[hx]⟩
theorem Wq.ret (h:Ag nx0 H0 nx H):Wq P pl X (.ret ⟨.ret v,false,H,nx⟩) nx0 H0 v:=⟨.ret v,H,nx,h,⟨v,rfl,rfl⟩,rfl⟩
theorem Wq.nN {o:Go.Ev.Out}(h:Ag nx0 H0 nx H)(hR:R o H nx):aF P pl X (.ret ⟨o,false,H,nx⟩) nx0 H0 R:=⟨o,H,nx,h,hR,rfl⟩
theorem Wq.uu {R:Value->T OB->Nat->Prop}(h:Ag nx0 H0 nx H)(hR:R v H nx):dJ P pl X (.ret ⟨.ret v,false,H,nx⟩) nx0 H0 R:=⟨.ret v,H,nx,h,⟨v,rfl,hR⟩,rfl⟩
theorem Wq.jump {q:bu}(hq:∀k,pj X q k=k)(h:aF P pl X (aI P pl q) nx0 H0 R):aF P pl X (.jump q) nx0 H0 R:=by
 obtain⟨v,H',nx',h1,hR,h2⟩:=h;refine⟨v,H',nx',h1,hR,?_⟩;show F P pl X q=_;rw[p5,hq];exact h2
theorem Wq.call {g:FuncId}{args:List Value}{k p:Value->T OB->Nat->Q}(hg:Pure P pl X g args u)(h:Ag nx0 H0 nx H)(hk:∀H' nx',Ag nx0 H0 nx' H'->aF P pl X (k u H' nx') nx0 H0 R):
 aF P pl X (bQ (.call g args false none H nx) k p) nx0 H0 R:=by
 obtain⟨H1,av,h1,h2⟩:=hg H nx;obtain⟨v,H2,nx2,h3,hR,h4⟩:=hk H1 av (h.trans h1);refine⟨v,H2,nx2,h3,hR,?_⟩;show af (F P pl X (.call g args false none H nx)) (λr=>(match r.o with | .ret v=>k v r.H r.nx | .gv v=>p v r.H r.nx:Q).run (F P pl X)) none=_;rw[h2];exact h4
theorem kW {e:TypeId}{l:List Value}{k:Value->T OB->Nat->Q}(hz:bT P e=some l):aR (cD P H nx e) k=k (lz nx) (Ev.set H (bits nx) (some (dq l e))) (nx+1):=by
 unfold cD;rw[hz,ax,fc];rfl
theorem Wq.var {e t:TypeId}{l:List Value}{s:Nat}{x:Value}{k:T OB->Nat->Q}(hz:bT P e=some l)(hs:aN P t=some s)(hl:l.length=s)(hx:x.cells.toList.length=s)(hone:x.cells.toList.all aj=true)
 (h:Ag nx0 H0 nx H) (hk:∀H' nx',Ag nx0 H0 nx' H'->aF P pl X (k H' nx') nx0 H0 R):aF P pl X (aR (cD P H nx e) λp H nx=>cV P H nx t (some p) x k) nx0 H0 R:=by
 rw[kW hz];have hg:(Ev.set H (bits nx) (some (dq l e))).get (bits nx)=some (dq l e):=by rw[get_at,if_pos rfl]
 have e1:cV P (Ev.set H (bits nx) (some (dq l e))) (nx+1) t (some (lz nx)) x k=k (Ev.set (Ev.set H (bits nx) (some (dq l e))) (bits nx) (some .dead)) (nx+1+1):=by
  show nB ((Ev.set H (bits nx) (some (dq l e))).get (bits nx)) (λn _ _=>af (aN P t) (λs=>bif Nat.beq 0 0&&(Nat.beq n s&&(Nat.beq x.cells.toList.length s&&x.cells.toList.all aj))then
   dp (bits nx) (Ev.set H (bits nx) (some (dq l e))) (some .dead) λH=>bo (Nat.succ (nx+1)) λn=>k H n else .bad) .bad)=_
  rw[hg];show af (aN P t) (λs=>bif Nat.beq 0 0&&(Nat.beq l.length s&&(Nat.beq x.cells.toList.length s&&x.cells.toList.all aj))then
   dp (bits nx) (Ev.set H (bits nx) (some (dq l e))) (some .dead) λH=>bo (Nat.succ (nx+1)) λn=>k H n else .bad) .bad=_
  rw[hs,ax,hl,hx,hone,aL,aP];have e2:Nat.beq s s=true:=Nat.beq_refl s;rw[e2];rfl
 rw[e1];exact hk _ _ ((((h.set h.1 _).succ).set h.1 _).succ)
theorem Wq.bo {k:Nat->Q}(hk:aF P pl X (k (nx+1)) nx0 H0 R):aF P pl X (Ev.bo (Nat.succ nx) k) nx0 H0 R:=by rw[aP];exact hk
@[simp] theorem Pn (n:Nat):vL (n:Int)=true:=rfl
@[simp] theorem C_ (k:IntKind) (n:Int):uc (some false) (some 1) (.int k n)=some (.int k n):=rfl
@[simp] theorem Da (s:ByteArray):uc (some false) (some 1) (.string s)=some (.string s):=rfl
@[simp] theorem zZ (s:Bool):uc (some false) (some 1) (.bool s)=some (.bool s):=rfl
@[simp] theorem Db (s:Nat) (es:List Value):uc (some false) (some 1) (aM s es)=some (aM s es):=rfl
@[simp] theorem Iw (u:Value):uc (some false) (some 1) (aa u)=some (aa u):=rfl
@[simp] theorem z6:uc (some false) (some 1) (.pointer none)=some (.pointer none):=rfl
theorem ez {t:TypeId}{s:Nat}{es:List Value}{i:Nat}{u:Value}(hs:pf P t=some s)(hi:es[i]? = some u)(k:IntKind):bc P t (some (aM s es)) (some (.int k (i:Int)))=some (aa u):=by
 show iS (i:Int) (HC P t (some (aM s es))) none=_;rw[fm];show Mm (pf P t) s es i=_;unfold Mm;rw[hs,ax,Nat.beq_refl,hi];rfl
theorem eU {t ty:TypeId}(s:Nat)(es:List Value)(h:gA P (some t)=true):cv P #[t] ty (some [aM s es])=some (.int .i64 (es.length:Int)):=by
 show(bif gA P (some t)then some (Value.int .i64 (.ofNat es.length))else none)=_;rw[h];rfl
theorem bE {α β:Type}(s:Sem α)(f:α->Sem β):cb P (s >>= f)=(cb P s).bind λa=>cb P (f a):=by
 show cb P (s.bind f)=_
 induction s with
 | pure a=>rfl
 | program k ih=>exact ih P
 | mark m k ih=>exact ih
 | _=>rfl
theorem dc {t:TypeId}{d:TypeDesc}(hu:P.underlying t=some d):cb P (underlying t)=some d:=by
 unfold underlying;simp only[bE,program,cb,Option.bind_some,hu];rfl
theorem aT {t ty:TypeId}(s:ByteArray)(hu:P.underlying t=some .string):cv P #[t] ty (some [.string s])=some (.int .i64 (s.size:Int)):=by
 show kJ P .len #[t] ty (some [.string s])=_;show(bif true&&true then rP (cb P (builtin .len #[t] ty #[] ⟨[.string s]⟩))else none)=_;have e:cb P (builtin .len #[t] ty #[] ⟨[.string s]⟩)=some (.value (.int .i64 (s.size:Int))):=by
  simp only[builtin,Builtin.len_];simp[bE,dc hu,goInt];rfl
 rw[e];show(rM (.int .i64 (s.size:Int)) λv=>bif flat v then some v else none)=_;rw[kR];rfl
@[simp] theorem qF (k:IntKind) (n:Int):aj (.int k n)=true:=rfl
@[simp] theorem l9 (s:ByteArray):aj (.string s)=true:=rfl
@[simp] theorem oL (b:Bool):aj (.bool b)=true:=rfl
@[simp] theorem qG (s:Nat) (es:List Value):aj (aM s es)=true:=rfl
@[simp] theorem sV (u:Value):aj (aa u)=true:=rfl
@[simp] theorem oM:aj (.pointer none)=true:=rfl
theorem ee {w:Value}(h:flat w=true):fV P (pure w)=some w:=by
 show(rM w λv=>bif flat v then some v else none)=_;rw[kR,h];rfl
theorem Ix (op:BinOp)(t:TypeId)(k:IntKind)(a b:Int):ze P op t (.int k a) (.int k b)=fV P (binOp op t (.int k a) (.int k b)):=by cases op<;>rfl
theorem kX {op:BinOp}{t:TypeId}{q:Bool}{a b:Value}(ha:flat a=true)(hb:flat b=true)(hq:rV a=false)(hg:nw a=false):cZ P H op t q (some a) (some b)=ze P op t a b:=by
 have e:cZ P H op t q (some a) (some b)=lQ P H op t q a b:=by cases a<;>first | rfl | cases hg
 rw[e];show(bif flat a&&flat b then(bif q || !(rV a&&rV b)then ze P op t a b else none)else rU P H op t a b)=_;rw[ha,hb,hq];cases q<;>rfl
theorem dP (op:BinOp)(t:TypeId)(q:Bool)(k:IntKind)(a b:Int):cZ P H op t q (some (.int k a)) (some (.int k b))=fV P (binOp op t (.int k a) (.int k b)):=by
 rw[kX rfl rfl rfl rfl,Ix]
@[simp] theorem uX (t:TypeId) (q:Bool) (k:IntKind) (a b:Int):cZ P H .add t q (some (.int k a)) (some (.int k b))=some (.int k (k.wrap (a+b))):=by
  rw[dP];have e:binOp .add t (.int k a) (.int k b)=pure (.int k (k.wrap (a+b))):=by simp[binOp,Op.intArith]
  rw[e];exact ee rfl
@[simp] theorem uY (t:TypeId) (q:Bool) (k:IntKind) (a b:Int):cZ P H .sub t q (some (.int k a)) (some (.int k b))=some (.int k (k.wrap (a-b))):=by
  rw[dP];have e:binOp .sub t (.int k a) (.int k b)=pure (.int k (k.wrap (a-b))):=by simp[binOp,Op.intArith]
  rw[e];exact ee rfl
@[simp] theorem uZ (t:TypeId) (q:Bool) (k:IntKind) (a b:Int):cZ P H .mul t q (some (.int k a)) (some (.int k b))=some (.int k (k.wrap (a*b))):=by
  rw[dP];have e:binOp .mul t (.int k a) (.int k b)=pure (.int k (k.wrap (a*b))):=by simp[binOp,Op.intArith]
  rw[e];exact ee rfl
theorem p6 (t:TypeId)(q:Bool)(k:IntKind)(a b:Int)(hb:b≠0):cZ P H .quo t q (some (.int k a)) (some (.int k b))=some (.int k (k.wrap (a.tdiv b))):=by
 rw[dP];have e:binOp .quo t (.int k a) (.int k b)=pure (.int k (k.wrap (a.tdiv b))):=by simp[binOp,Op.intDiv,hb]
 rw[e];exact ee rfl
theorem u0 (t:TypeId)(q:Bool)(k:IntKind)(a b:Int)(hb:b≠0):cZ P H .rem t q (some (.int k a)) (some (.int k b))=some (.int k (a.tmod b)):=by
 rw[dP];have e:binOp .rem t (.int k a) (.int k b)=pure (.int k (a.tmod b)):=by simp[binOp,Op.intDiv,hb]
 rw[e];exact ee rfl
@[simp] theorem u3 (t:TypeId) (q:Bool) (k:IntKind) (a b:Int):cZ P H .lss t q (some (.int k a)) (some (.int k b))=some (.bool (decide (a<b))):=by
  rw[dP];have e:binOp .lss t (.int k a) (.int k b)=pure (.bool (decide (a<b))):=by simp[binOp,Op.intCmp]
  rw[e];exact ee rfl
@[simp] theorem u4 (t:TypeId) (q:Bool) (k:IntKind) (a b:Int):cZ P H .leq t q (some (.int k a)) (some (.int k b))=some (.bool (decide (a<=b))):=by
  rw[dP];have e:binOp .leq t (.int k a) (.int k b)=pure (.bool (decide (a<=b))):=by simp[binOp,Op.intCmp]
  rw[e];exact ee rfl
@[simp] theorem u5 (t:TypeId) (q:Bool) (k:IntKind) (a b:Int):cZ P H .gtr t q (some (.int k a)) (some (.int k b))=some (.bool (decide (b<a))):=by
  rw[dP];have e:binOp .gtr t (.int k a) (.int k b)=pure (.bool (decide (b<a))):=by simp[binOp,Op.intCmp]
  rw[e];exact ee rfl
@[simp] theorem u6 (t:TypeId) (q:Bool) (k:IntKind) (a b:Int):cZ P H .geq t q (some (.int k a)) (some (.int k b))=some (.bool (decide (b<=a))):=by
  rw[dP];have e:binOp .geq t (.int k a) (.int k b)=pure (.bool (decide (b<=a))):=by simp[binOp,Op.intCmp]
  rw[e];exact ee rfl
@[simp] theorem u7 (t:TypeId) (q:Bool) (k:IntKind) (a b:Int):cZ P H .eql t q (some (.int k a)) (some (.int k b))=some (.bool (decide (a=b))):=by
  rw[dP];have e:binOp .eql t (.int k a) (.int k b)=pure (.bool (decide (a=b))):=by simp[binOp,Op.intCmp];rfl
  rw[e];exact ee rfl
@[simp] theorem u9 (t:TypeId) (q:Bool) (k:IntKind) (a b:Int):cZ P H .neq t q (some (.int k a)) (some (.int k b))=some (.bool (!decide (a=b))):=by
  rw[dP];have e:binOp .neq t (.int k a) (.int k b)=pure (.bool (!decide (a=b))):=by simp[binOp,Op.intCmp];rfl
  rw[e];exact ee rfl
theorem Vc (a b:ByteArray):(a.toList == b.toList)=decide (a=b):=by
 rw[ByteArray.toList_eq,ByteArray.toList_eq];obtain⟨⟨x⟩⟩:=a;obtain⟨⟨y⟩⟩:=b;rw[Bool.eq_iff_iff];simp
theorem aX {t:TypeId}{z l:List Value}{vs:List (Nat×Value)}(hz:bT P t=some z)(hb:P.built t vs=some ⟨l⟩):a9 P t (some vs)=some (.agg ⟨l⟩):=by
 show af (bT P t) (λ_=>af (P.built t vs) (λcs=>rM (.agg cs) some) none) none=_;rw[hz,ax,hb,ax,kR]
@[simp] theorem sW (t:TypeId) (q:Bool) (a b:ByteArray):cZ P H .eql t q (some (.string a)) (some (.string b))=some (.bool (decide (a=b))):=by
  rw[kX rfl rfl rfl rfl];have e:ze P .eql t (.string a) (.string b)=fV P (binOp .eql t (.string a) (.string b)):=rfl;rw[e,binOp_string_eql,Vc];exact ee rfl
@[simp] theorem sX (t:TypeId) (q:Bool) (a b:ByteArray):cZ P H .neq t q (some (.string a)) (some (.string b))=some (.bool (!decide (a=b))):=by
  rw[kX rfl rfl rfl rfl];have e:ze P .neq t (.string a) (.string b)=fV P (binOp .neq t (.string a) (.string b)):=rfl;rw[e,binOp_string_neq,Vc];exact ee rfl
@[simp] theorem wh (b:Bool):iw P .not (some (.bool b))=some (.bool (!b)):=by cases b<;>rfl
@[simp] theorem sY {β:Type} (b:Bool) (k:Bool->β) (bad:β):Mr (.bool b) k bad=k b:=rfl
theorem bS {n:Int}(h: -9223372036854775808<=n/\n<9223372036854775808):IntKind.i64.wrap n=n:=by
 unfold IntKind.wrap;have:IntKind.i64.bits=64:=rfl;have:IntKind.i64.signed=true:=rfl;simp only[*,Bool.true_and];split
 . rename_i h';simp only[decide_eq_true_eq]at h';omega
 . rename_i h';simp only[decide_eq_true_eq]at h';omega
theorem Wq.bK {b:Bool}{x y:Q}(h:b=true->aF P pl X x nx0 H0 R)(h':b=false->aF P pl X y nx0 H0 R):aF P pl X (Ev.bK b x y) nx0 H0 R:=by
 cases b
 . exact h' rfl
 . exact h rfl
theorem Wq.ite {p:Prop}[Decidable p]{x y:Q}(h:p->aF P pl X x nx0 H0 R)(h':¬p->aF P pl X y nx0 H0 R):aF P pl X (Ev.bK (decide p) x y) nx0 H0 R:=
 Wq.bK (λq=>h (of_decide_eq_true q)) (λq=>h' (of_decide_eq_false q))
theorem Wq.iZ {k:Nat->Q}(h:Ag nx0 H0 nx H)(hk:Ag nx0 H0 (nx+1) H->aF P pl X (k (nx+1)) nx0 H0 R):aF P pl X (Ev.bo (Nat.succ nx) k) nx0 H0 R:=Wq.bo (hk h.succ)
theorem Wq.up {σ:Type}(n:Nat)(q:Nat->σ->T OB->Nat->Q)(r:Nat->σ->Value)(hend:∀s H1 av,Ag nx0 H0 av H1->Wq P pl X (q n s H1 av) nx0 H0 (r n s))
 (hstep:∀i s H1 av,i<n->(∀s H2 nx2,Ag nx0 H0 nx2 H2->Wq P pl X (q (i+1) s H2 nx2) nx0 H0 (r (i+1) s))->Ag nx0 H0 av H1->Wq P pl X (q i s H1 av) nx0 H0 (r i s)):
 ∀(i:Nat) (s:σ) (H1:T OB) (av:Nat),i<=n->Ag nx0 H0 av H1->Wq P pl X (q i s H1 av) nx0 H0 (r i s):=by
 have h:∀(d i:Nat),n-i=d->i<=n->∀(s:σ) (H1:T OB) (av:Nat),Ag nx0 H0 av H1->Wq P pl X (q i s H1 av) nx0 H0 (r i s):=by
  intro d
  induction d with
  | zero=>intro i hd hi s H1 av hA;obtain rfl:i=n:=by omega
          exact hend s H1 av hA
  | succ d ih=>intro i hd hi s H1 av hA;exact hstep i s H1 av (by omega) (λs H2 nx2 h=>ih (i+1) (by omega) (by omega) s H2 nx2 h) hA
 exact λi s H1 av hi hA=>h (n-i) i rfl hi s H1 av hA
def cA (H:T OB)(b:Nat)(l:List Value)(e:TypeId):Prop:=∃tr,H.get (bits b)=some (.cells l.length tr e)/\∀i,i<l.length->tr.get (bits i)=l[i]?
theorem cA.new (l:List Value)(e:TypeId):cA (Ev.set H (bits nx) (some (dq l e))) nx l e:=⟨_,by rw[get_at,if_pos rfl];rfl,λi hi=>uP l i hi⟩
theorem cA.other {b:Nat}{l:List Value}{e:TypeId}(h:cA H b l e){c:Nat}(hc:b≠c)(x:Option OB):cA (Ev.set H (bits c) x) b l e:=by
 obtain⟨tr,h1,h2⟩:=h;exact⟨tr,by rw[get_at,if_neg hc];exact h1,h2⟩
theorem cA.ag {b:Nat}{l:List Value}{e:TypeId}(h:cA H b l e)(hA:Ag nx H av H1)(hb:b<nx):cA H1 b l e:=by
 obtain⟨tr,h1,h2⟩:=h;exact⟨tr,(show hp H1 b=_ from(hA.2 b hb).trans h1),h2⟩
def jD (l u:List Value)(off:Nat):List Value:=l.take off++u++l.drop (off+u.length)
theorem jS {tr:T Value}{l:List Value}(h:∀i,i<l.length->tr.get (bits i)=l[i]?):∀(n off:Nat),off+n<=l.length->qS tr n off=some ((l.drop off).take n)
 | 0,off,_=>by rw[zq];simp
 | n+1,off,hn=>by
   have hlt:off<l.length:=by omega
   rw[zr,h off hlt,List.getElem?_eq_getElem hlt,jS h n (off+1) (by omega),List.drop_eq_getElem_cons hlt,List.take_succ_cons]
theorem bU {b off s:Nat}{l:List Value}{e t:TypeId}(h:cA H b l e)(ha:dG P t=some true)(hs:aN P t=some s)(hn:off+s<=l.length):
 ai P H t (some (.pointer (some ⟨b,off,none⟩)))=some (.agg ⟨(l.drop off).take s⟩):=by
 obtain⟨tr,h1,h2⟩:=h;show ly P H t b off=_;unfold ly;rw[h1];show lP P l.length tr t off=_;unfold lP;rw[ha,ax];show rO P l.length tr t off=_;unfold rO;rw[hs,ax,jS h2 s off hn,Nat.ble_eq_true_of_le hn];rfl
theorem ah {b off:Nat}{l:List Value}{e t:TypeId}{u:Value}(h:cA H b l e)(ha:dG P t=some false)(hu:l[off]? = some u):ai P H t (some (.pointer (some ⟨b,off,none⟩)))=some u:=by
 obtain⟨tr,h1,h2⟩:=h;have hlt:=(List.getElem?_eq_some_iff.1 hu).1;show ly P H t b off=_;unfold ly;rw[h1];show lP P l.length tr t off=_;unfold lP;rw[ha,ax];show rN l.length tr off=_;unfold rN;have e1:Nat.blt off l.length=true:=Nat.ble_eq_true_of_le hlt;rw[e1,h2 off hlt,hu];rfl
theorem Wq.alloc {e:TypeId}{l:List Value}{k:Value->T OB->Nat->Q}(hz:bT P e=some l)(h:Ag nx0 H0 nx H)
 (hk:∀H',cA H' nx l e->(∀b l e,b<nx->cA H b l e->cA H' b l e)->Ag nx0 H0 (nx+1) H'->aF P pl X (k (.pointer (some ⟨nx,0,none⟩)) H' (nx+1)) nx0 H0 R):aF P pl X (aR (cD P H nx e) k) nx0 H0 R:=by
 rw[kW hz];exact hk _ (cA.new l e) (λb l e hb h=>h.other (by omega) _) (h.succ.set h.1 _)
theorem Wq.box {e:TypeId}{u:Value}{k:Value->T OB->Nat->Q}(h:Ag nx0 H0 nx H)
 (hk:∀H',cA H' nx u.cells.toList e->(∀b l e,b<nx->cA H b l e->cA H' b l e)->Ag nx0 H0 (nx+1) H'->aF P pl X (k (.pointer (some ⟨nx,0,none⟩)) H' (nx+1)) nx0 H0 R):aF P pl X (aR (jz H nx e (some u)) k) nx0 H0 R:=by
 have e1:aR (jz H nx e (some u)) k=k (lz nx) (Ev.set H (bits nx) (some (dq u.cells.toList e))) (nx+1):=by
  show aR (zg H nx e u.cells.toList λH n=> .val (lz nx) H n) k=_;rw[fc];rfl
 rw[e1];exact hk _ (cA.new _ e) (λb l e hb h=>h.other (by omega) _) (h.succ.set h.1 _)
theorem Gs {l u:List Value}{off i:Nat}(hn:off+u.length<=l.length):(jD l u off)[i]? = if off<=i/\i<off+u.length then u[i-off]? else l[i]? := by
 unfold jD;have h1:(l.take off).length=off:=by simp;omega
 by_cases h:i<off
 . rw[if_neg (by omega),List.append_assoc,List.getElem?_append_left (by omega),List.getElem?_take,if_pos h]
 . by_cases h2:i<off+u.length
   . rw[if_pos (by omega),List.append_assoc,List.getElem?_append_right (by omega),List.getElem?_append_left (by omega),h1]
   . rw[if_neg (by omega),List.getElem?_append_right (by simp;omega),List.getElem?_drop];congr 1;simp;omega
theorem oN {l u:List Value}{off:Nat}(hn:off+u.length<=l.length):(jD l u off).length=l.length:=by
 unfold jD;simp;omega
theorem Wq.store {b off s:Nat}{l:List Value}{e t:TypeId}{u:Value}{k:Value->T OB->Nat->Q}(hb:cA H b l e)(hs:aN P t=some s)(hn:off+s<=l.length)(hl:u.cells.toList.length=s)(hone:u.cells.toList.all aj=true)
 (h:Ag nx0 H0 nx H) (hbn:nx0<=b) (hk:∀H',cA H' b (jD l u.cells.toList off) e->(∀c l e,c≠b->cA H c l e->cA H' c l e)->Ag nx0 H0 nx H'->aF P pl X (k undef H' nx) nx0 H0 R):
 aF P pl X (aR (cI P H nx t (some (.pointer (some ⟨b,off,none⟩))) (some u)) k) nx0 H0 R:=by
 obtain⟨tr,h1,h2⟩:=hb;have e1:cI P H nx t (some (.pointer (some ⟨b,off,none⟩))) (some u)= .val undef (Ev.set H (bits b) (some (.cells l.length (e8 u.cells.toList off tr) e))) nx:=by
  show dV (H.get (bits b)) (λn tr e=>af (aN P t) (λs=>bif Nat.beq u.cells.toList.length s&&Nat.ble (off+s) n&&u.cells.toList.all aj then
   fk u.cells.toList off tr λtr=>dp (bits b) H (some (.cells n tr e)) λH=>fj.val undef H nx else .bad) .bad) .bad=_
  rw[h1];show af (aN P t) (λs=>bif Nat.beq u.cells.toList.length s&&Nat.ble (off+s) l.length&&u.cells.toList.all aj then
   fk u.cells.toList off tr λtr=>dp (bits b) H (some (.cells l.length tr e)) λH=>fj.val undef H nx else .bad) .bad=_
  rw[hs,ax,hl,Nat.beq_refl,Nat.ble_eq_true_of_le hn,hone,du,aL];rfl
 rw[e1];have hn':off+u.cells.toList.length<=l.length:=by rw[hl];exact hn
 refine hk _ ⟨e8 u.cells.toList off tr,?_,λi hi=> ?_⟩ (λc l e hc h=>h.other hc _) (h.set hbn _)
 . rw[get_at,if_pos rfl,oN hn']
 . rw[oN hn']at hi;rw[dO,Gs hn'];split
   . rfl
   . exact h2 i hi
end
end
end Go.Ev
namespace Go.Proofs.YthjhonhhbddhkaaDoor
open Go.Ev Go.RowKit
noncomputable section
set_option maxRecDepth 100000
set_option linter.unusedVariables false
set_option linter.unusedSimpArgs false
set_option maxHeartbeats 8000000
noncomputable abbrev P:Program:=Tryd.prog
def pl:kP:=⟨[(34,[0]),(12,[1000]),(47,[1000]),(63,[1000]),(64,[1000]),(83,[1000]),(93,[1000]),(96,[1000]),(92,[1000]),(79,[1000]),(90,[1000]),(60,[1000]),(81,[1000]),(80,[1000]),(61,[1000]),(46,[1000]),(59,[1000]),(26,[1000])],[(31,[1]),(11,[0,1]),(17,[0]),(18,[0]),(19,[0]),(20,[0]),(16,[0]),(13,[0])],[(8,[5]),(12,[7]),(13,[6]),(14,[1,5,7,9,11,13]),(15,[6]),(16,[6]),(17,[2,3]),(18,[2,3]),(19,[2,3]),(20,[2,3]),(24,[1]),(25,[4]),(27,[1,5]),(28,[1,5,7]),(29,[1,5]),(30,[3,5,7]),(47,[3,4,5,6]),(50,[6]),(53,[3,5]),(54,[3]),(55,[3]),(56,[3,7]),(57,[3,5]),(59,[4]),(61,[4]),(65,[5]),(66,[5]),(67,[3,5]),(68,[8]),(69,[7]),(70,[3,5,6]),(72,[3]),(75,[3]),(76,[3,5,7]),(78,[5]),(80,[4]),(84,[3]),(86,[1]),(88,[3]),(90,[4]),(92,[3]),(93,[3,6]),(95,[4]),(96,[4])],[((4,20),[3,6,8,10,46]),((3,11),[0,1,5,6]),((3,12),[0,1,5,6]),((11,11),[0,1,5]),((11,18),[0,1,5,6,7,75]),((11,23),[0,1,5,6,7,8]),((11,30),[0,1,5,6,7,8,113]),((8,9),[3,6,7,8]),((5,14),[0]),((21,11),[0,1,5]),((20,6),[2,3,29]),((20,11),[2,3,5]),((20,21),[2,3,6]),((18,6),[2,3,49]),((18,11),[2,3,5]),((15,9),[4,9,10,11]),((16,9),[4,7,8,9]),((16,34),[4,7,8,9]),((16,22),[4,6,7,8,9]),((25,12),[0,1,2,4]),((13,7),[0,2,3,4,8,9,10]),((12,13),[0,5,6]),((14,70),[3]),((14,17),[3,28,29,30]),((14,39),[3,56,57,58]),((14,59),[3,79,80,81]),((14,25),[3,28,29,30,40,41,42]),((14,45),[3,56,57,58,63,64,65]),((35,11),[0,1,5]),((35,16),[0,1,5,54]),((30,24),[0,3]),((30,27),[0,48,49,50]),((30,39),[0,5,48,49,50,76,77,78]),((34,9),[0,3,4]),((34,18),[0,3,4,5,20]),((34,30),[0,3,4,5,43]),((33,10),[0,3]),((33,15),[0,3,4,5]),((33,28),[4,5]),((24,26),[1,66]),((24,46),[1,90]),((24,31),[1,3]),((24,48),[1,110]),((24,36),[1,3,86]),((24,53),[1,4]),((26,7),[0,3]),((26,14),[0,3,4]),((23,54),[2,5,6]),((23,38),[0,2,4,5,6,102]),((23,46),[0,2,5,6,121]),((23,49),[0,2,5,6]),((23,13),[0,2,5,6,23,24]),((23,18),[0,2,5,6,8,23,24,59]),((22,7),[0,3,4]),((22,18),[0,3,4,5,6]),((22,42),[3]),((22,24),[0,3,4]),((22,30),[0,3,4,5,69]),((22,36),[0,3,4,85]),((29,9),[3,7,8,9]),((28,9),[1,3,12,13,14]),((28,19),[3,24,25,26]),((27,9),[3,7,8,9]),((55,6),[0,3,12]),((57,11),[0,18,19,20]),((56,10),[0,3]),((56,13),[0,3,21,22,23]),((56,20),[0,3,5,21,22,23]),((56,28),[0,3]),((56,35),[0,59,60,61]),((53,36),[0,3,7,51]),((53,40),[0,3]),((53,83),[0,163,164,165]),((52,14),[0]),((52,20),[0,3]),((52,26),[0,3]),((52,38),[0,3]),((52,44),[0,3]),((52,28),[0,3,72]),((50,8),[3,4,5,6,72]),((42,6),[0,3]),((44,7),[1,7,8,9]),((41,7),[0,1,5]),((38,9),[0,4,5]),((38,10),[0,4,5]),((38,34),[0,4,5,6,49]),((37,7),[0,4,5]),((76,18),[0,3,9,26]),((76,20),[0,3]),((76,40),[0,3]),((76,23),[0,3,52,53,54]),((76,43),[0,3,85,86,87]),((76,30),[0,3,5,52,53,54]),((76,50),[0,3,7,85,86,87]),((76,58),[0,3]),((69,5),[0,2,8,9,10]),((69,12),[0,2,7,8,9,10]),((75,46),[0,3,77]),((75,56),[0,3]),((74,7),[1,7,8,9]),((73,6),[0,2,10]),((71,7),[0,5,6]),((70,13),[0,3,19,20,21]),((70,18),[0,3,5,19,20,21]),((70,38),[0]),((66,5),[0,6,7,8]),((66,12),[0,5,6,7,8]),((67,6),[0,3]),((67,10),[0,3]),((67,23),[0,92,93,94]),((64,11),[0,1,4,5]),((64,14),[0,1,4,5,6,26]),((63,5),[0,3,4]),((61,17),[0,2,5]),((61,22),[2]),((60,10),[2,3]),((59,24),[0,2,3]),((59,19),[0,2,3]),((59,31),[0,2,3]),((58,14),[0,8,9]),((58,28),[0,34]),((88,6),[0,3,17]),((87,4),[0,1,2]),((87,7),[0,1,2,6]),((87,14),[0,1,2,6]),((86,20),[5]),((84,8),[3,13]),((83,8),[0,2,3,13]),((83,15),[0,2,4]),((80,20),[0,2,3]),((81,7),[0,2,3]),((79,11),[0,2,3]),((79,14),[0,2,3]),((78,10),[0,4,5]),((77,10),[0,9]),((94,14),[0,6]),((93,47),[0,2,4,73,74]),((93,55),[0,2,4,6,7]),((93,60),[0,2,4,73,74]),((92,53),[0,2,4]),((92,56),[0,2,4]),((91,14),[0,6]),((90,44),[0,2,3]),((90,29),[0,2,3,7]),((90,47),[0,2,3,10,11]),((90,40),[0,2,3,7,8]),((96,7),[0,2,3]),((96,14),[0,2,3,4]),((96,25),[0,2,3,6]),((96,28),[0,2,3,6]),((95,8),[0,4,13])],true⟩
abbrev i64 (n:Int):Value:= .int .i64 n
abbrev pB (op:BinOp)(ty:TypeId)(b:Bool)(x y:Value)(H:T OB)(k:Value->Q):Q:=af (cZ P H op ty b (some x) (some y)) k .bad
abbrev pT (op:BinOp)(ty:TypeId)(b:Bool)(x y:Value)(H:T OB)(A B:Q):Q:=af (cZ P H op ty b (some x) (some y)) (λz=>Mr z (λc=>bK c A B) .bad) .bad
abbrev pL (ty:TypeId)(x:Value)(H:T OB)(k:Value->Q):Q:=af (ai P H ty (some x)) k .bad
abbrev pF (t:TypeId)(x:Value)(n:Nat)(k:Value->Q):Q:=af (ae P t (some x) n) k .bad
abbrev pX (t:TypeId)(x:Value)(n:Nat)(ty:TypeId)(H:T OB)(k:Value->Q):Q:=af (ae P t (some x) n) (λa=>af (ai P H ty (some a)) k .bad) .bad
abbrev pN (t ty:TypeId)(x:Value)(k:Value->Q):Q:=af (cv P #[t] ty (some [x])) k .bad
abbrev pA (t:TypeId)(x y:Value)(k:Value->Q):Q:=af (bc P t (some x) (some y)) k .bad
abbrev pI (t:TypeId)(x y:Value)(k:Value->Q):Q:=af (cC P t (some x) (some y)) k .bad
abbrev pE (x:Value)(n:Nat)(k:Value->Q):Q:=af (bk (some x) n) k .bad
abbrev pY (x:Value)(k:Value->Q):Q:=af (oe (some x)) k .bad
abbrev pD (t:TypeId)(l:List (Nat×Value))(k:Value->Q):Q:=af (a9 P t (some l)) k .bad
abbrev pO (x:Option Value)(k:Value->Q):Q:=af x k .bad
abbrev pV (x:Value)(A B:Q):Q:=Mr x (λc=>bK c A B) .bad
abbrev pW (x:Value)(k:Bool->Q):Q:=Mr x k .bad
abbrev pC (f:FuncId)(l:List Value)(H:T OB)(nx:Nat)(k:Value->T OB->Nat->Q):Q:=bQ (.call f l false none H nx) k gg
abbrev pR (v:Value)(H:T OB)(nx:Nat):Q:= .ret ⟨.ret v,false,H,nx⟩
abbrev pS (ty:TypeId)(a v:Value)(H:T OB)(nx:Nat)(k:Value->T OB->Nat->Q):Q:=aR (cI P H nx ty (some a) (some v)) k
abbrev pM (ty:TypeId)(H:T OB)(nx:Nat)(k:Value->T OB->Nat->Q):Q:=aR (cD P H nx ty) k
abbrev pG (t:TypeId)(n:Nat)(l:List (Nat×Value))(H:T OB)(nx:Nat)(k:Value->T OB->Nat->Q):Q:=aR (aJ P H nx t n (some l)) k
abbrev pP (t:List TypeId)(l:List Value)(H:T OB)(nx:Nat)(k:Value->T OB->Nat->Q):Q:=aR (cO P H nx t (some l)) k
abbrev bZ (f n b:Nat)(l:List (Nat×Value))(H:T OB)(nx:Nat):bu:= .at ⟨f,n,false,[],none,false⟩ (Gr l) (Iv P f b) H nx
end
end Go.Proofs.YthjhonhhbddhkaaDoor
namespace Go.Ev
noncomputable section
set_option maxRecDepth 100000
set_option linter.unusedVariables false
set_option linter.unusedSimpArgs false
section
variable {P:Program}{pl:kP}{X:Ext}{H H0 H1:T OB}{nx nx0 av:Nat}{v u:Value}{R:Go.Ev.Out->T OB->Nat->Prop}
theorem Wq.new {e:TypeId}{l:List Value}{q:T OB->Nat->Q}(h:Ag nx0 H0 nx H)(hk:∀H',cA H' nx l e->(∀b l e,b<nx->cA H b l e->cA H' b l e)->Ag nx0 H0 (nx+1) H'->aF P pl X (q H' (nx+1)) nx0 H0 R):
 aF P pl X (q (Ev.set H (bits nx) (some (dq l e))) (nx+1)) nx0 H0 R:=hk _ (cA.new l e) (λb l e hb h=>h.other (by omega) _) (h.succ.set h.1 _)
theorem Wq.row {t e:TypeId}{s n:Nat}{vs:List (Nat×Value)}{z l:List Value}{k:Value->T OB->Nat->Q}(hu:P.underlying t=some (.slice e))(hs:aN P e=some s)(hz:bT P e=some z)
 (hg:(Nat.ble (n*s) 16777216&&Nat.blt 0 (n*s)&&Nat.blt 0 z.length)=true) (hf:Instr.fill (λi=>some (i*s,s)) (bH z (n*s)) vs=some ⟨l⟩) (h:Ag nx0 H0 nx H)
 (hk:∀H',cA H' nx l e->(∀b l e,b<nx->cA H b l e->cA H' b l e)->Ag nx0 H0 (nx+1) H'->aF P pl X (k (.slice (some ⟨nx,0,none⟩) n n) H' (nx+1)) nx0 H0 R):
 aF P pl X (aR (aJ P H nx t n (some vs)) k) nx0 H0 R:=by
 have e1:aR (aJ P H nx t n (some vs)) k=k (.slice (some ⟨nx,0,none⟩) n n) (Ev.set H (bits nx) (some (dq l e))) (nx+1):=by
  unfold aJ dt;rw[ax,hu];simp only[hs,ax,hz,hg,cond_true,hf];rw[fc,aP];rfl
 rw[e1];exact Wq.new h hk
theorem BJ {b s n c:Nat}{l:List Value}{e:TypeId}(h:cA H b l e)(hn:l.length=n*s):ny H s (.slice (some ⟨b,0,none⟩) n c)=some (n,l):=by
 obtain⟨tr,h1,h2⟩:=h;show af (cellsOf H s (some ⟨b,0,none⟩) n) (λl=>some (n,l)) none=_;unfold cellsOf;simp only;rw[h1];show af (bif Nat.ble (0+n*s) l.length then qS tr (n*s) 0 else none) (λl=>some (n,l)) none=_;rw[Nat.zero_add,hn,Nat.ble_eq_true_of_le (Nat.le_refl _),cond_true,<- hn,jS h2 _ _ (by omega)];simp
theorem z7 (s:Nat)(es:List Value):ny H s (aM s es)=some (es.length,es.flatMap λu=>u.cells.toList):=by
 show(bif Nat.beq s s then some (es.length,es.flatMap λu=>u.cells.toList)else none)=_;rw[Nat.beq_refl];rfl
def isStr (v:Value):Bool:=match v with
 | .string _=>true
 | _=>false
theorem mL {t:TypeId}{x:Value}{base:Option Addr}{sl sc:Nat}(hx:isStr x=false):cO P H nx [t,t] (some [.slice base sl sc,x])=dt P t (λe s=>af (ny H s x) (λp=>bif br P e s (sl+p.1)then og P H nx e s base sl sc p.1 p.2 else .bad) .bad) .bad:=by
 have e1:cO P H nx [t,t] (some [.slice base sl sc,x])=oh P H nx [t,t] (some [.slice base sl sc,x]):=by cases x<;>first | rfl | cases hx
 rw[e1];show(bif !Nat.beq t t then fj.bad else _)=_;rw[Nat.beq_refl];rfl
theorem Wq.MN {t e:TypeId}{s m:Nat}{x:Value}{xs:List Value}{k:Value->T OB->Nat->Q}(hu:P.underlying t=some (.slice e))(hs:aN P e=some s)(hx:isStr x=false)(hxs:ny H s x=some (m,xs))(hsm:br P e s m=true)(h:Ag nx0 H0 nx H)
 (h0:m=0->aF P pl X (k (.slice none 0 0) H nx) nx0 H0 R)
 (hk:∀H',0<m->cA H' nx xs e->(∀b l e,b<nx->cA H b l e->cA H' b l e)->Ag nx0 H0 (nx+1) H'->aF P pl X (k (.slice (some ⟨nx,0,none⟩) m eO) H' (nx+1)) nx0 H0 R):
 aF P pl X (aR (cO P H nx [t,t] (some [.slice none 0 0,x])) k) nx0 H0 R:=by
 rw[mL hx];unfold dt;rw[hu];simp only[hs,ax,hxs,Nat.zero_add,hsm,cond_true];show aF P pl X (aR (bif Nat.beq 0 0&&Nat.beq 0 0 then(bif Nat.beq m 0 then .val (.slice none 0 0) H nx else gP H nx e m xs)else .bad) k) nx0 H0 R;cases m with
 | zero=>exact h0 rfl
 | succ m=>
   show aF P pl X (aR (gP H nx e (m+1) xs) k) nx0 H0 R;rw[g_];exact Wq.new (q:=λH n=>k (.slice (some ⟨nx,0,none⟩) (m+1) eO) H n) h λH' a b c=>hk H' (Nat.succ_pos _) a b c
theorem Wq.app {t e e':TypeId}{b s n m:Nat}{x:Value}{l xs:List Value}{k:Value->T OB->Nat->Q}(hu:P.underlying t=some (.slice e))(hs:aN P e=some s)(hb:cA H b l e')(hs':aN P e'=some s)(hl:l.length=n*s)(hx:isStr x=false)(hxs:ny H s x=some (m,xs))
 (hone:xs.all aj=true) (hsm:br P e s (n+m)=true) (h:Ag nx0 H0 nx H) (hbn:nx0<=b) (hbx:b<nx)
 (hk:∀H',cA H' nx (l++xs) e->(∀c l e,c≠b->c<nx->cA H c l e->cA H' c l e)->Ag nx0 H0 (nx+1) H'->aF P pl X (k (.slice (some ⟨nx,0,none⟩) (n+m) eO) H' (nx+1)) nx0 H0 R):
 aF P pl X (aR (cO P H nx [t,t] (some [.slice (some ⟨b,0,none⟩) n eO,x])) k) nx0 H0 R:=by
 rw[mL hx];unfold dt;rw[hu];simp only[hs,ax,hxs,hsm,cond_true];obtain⟨tr,h1,h2⟩:=hb;have e1:og P H nx e s (some ⟨b,0,none⟩) n eO m xs=gP (Ev.set H (bits b) (some .dead)) nx e (n+m) (l++xs):=by
  show uf P H nx e s b 0 n eO m xs=_;unfold uf;rw[h1];have eu:Nat.beq eO eO=true:=Nat.beq_refl _;simp only[dV,eu,cond_true];unfold Q2 rT;rw[h1];show(bif Nat.beq 0 0&&Nat.ble (n*s) l.length&&af (aN P e') (λz=>Nat.beq z s) false&&xs.all aj then _ else _)=_;rw[hs',ax,Nat.beq_refl,hl,Nat.ble_eq_true_of_le (Nat.le_refl _),hone];have:qS tr (n*s) 0=some l:=by rw[<- hl,jS h2 _ _ (by omega)];simp
  rw[this,Nat.beq_refl];show dp (bits b) H (some .dead) (λH=>gP H nx e (n+m) (l++xs))=_;rw[aL]
 rw[e1,g_];exact Wq.new (q:=λH n'=>k (.slice (some ⟨nx,0,none⟩) (n+m) eO) H n') (h.set hbn _) λH' ha hb hc=>hk H' ha (λc l e hcb hcn hi=>hb c l e hcn (hi.other hcb _)) hc
theorem l_:∀(l:List Value),chunk false 1 l.length l=some l
 | []=>rfl
 | v::l=>by
   show(bif Nat.ble 1 (l.length+1)then af (chunk false 1 l.length l) (λr=>bK false _ (af (some v) (λv=>some (v::r)) none)) none else none)=_;rw[Nat.ble_eq_true_of_le (by omega),l_ l];rfl
theorem kY (s:Nat):∀(es:List (List Value)),(∀x,x∈es->x.length=s)->chunk true s es.length es.flatten=some (es.map λx=> .agg ⟨x⟩)
 | [],_=>rfl
 | x::es,h=>by
   have hx:=h x List.mem_cons_self;show(bif Nat.ble s (x++es.flatten).length then af (chunk true s es.length ((x++es.flatten).drop s)) (λr=>some (.agg ⟨(x++es.flatten).take s⟩::r)) none else none)=_;rw[Nat.ble_eq_true_of_le (by simp;omega),<- hx,List.drop_left,List.take_left,hx,kY s es λy hy=>h y (List.mem_cons_of_mem _ hy)];rfl
theorem Wq.UI {t e e':TypeId}{b s n c:Nat}{a:Bool}{l es:List Value}{k:Value->T OB->Nat->Q}(hu:P.underlying t=some (.slice e))(hs:aN P e=some s)(ha:dG P e=some a)(hpos:(Nat.blt 0 s&&(a||Nat.beq s 1))=true)(hb:cA H b l e')(hl:l.length=n*s)
 (hc:(Nat.beq c eO||Nat.ble n c)=true) (hch:chunk a s n l=some es) (hone:(es.all λx=>Ev.bK a true (aj x))=true) (h:Ag nx0 H0 nx H) (hbn:nx0<=b)
 (hk:∀H',(∀c l e,c≠b->cA H c l e->cA H' c l e)->Ag nx0 H0 (nx+1) H'->aF P pl X (k (aM s es) H' (nx+1)) nx0 H0 R):
 aF P pl X (fl P t (.slice (some ⟨b,0,none⟩) n c) H nx k) nx0 H0 R:=by
 obtain⟨tr,h1,h2⟩:=hb;have e2:Mo P H e b 0 n=some (aM s es):=by
  unfold Mo;rw[h1];show af (aN P e) (λs=>af (dG P e) (λa=>bif Nat.ble (0+n*s) l.length&&Nat.blt 0 s&&(a||Nat.beq s 1)then _ else none) none) none=_;rw[hs,ax,ha,ax,Nat.zero_add,hl,Nat.ble_eq_true_of_le (Nat.le_refl _),Bool.true_and,hpos,cond_true];have:qS tr (n*s) 0=some l:=by rw[<- hl,jS h2 _ _ (by omega)];simp
  rw[this,ax,hch,ax,hone];rfl
 have e1:fl P t (.slice (some ⟨b,0,none⟩) n c) H nx k=k (aM s es) (Ev.set H (bits b) (some (XX (H.get (bits b))))) (nx+1):=by
  unfold fl;rw[hu];simp only;unfold fM;rw[hu];simp only;rw[hc,cond_true,e2,ax,aL,aP]
 rw[e1];exact hk _ (λc l e hc hi=>hi.other hc _) ((h.set hbn _).succ)
theorem BK {t:TypeId}{s b off len c i:Nat}(hs:pf P t=some s)(hi:i<len)(k:IntKind):bc P t (some (.slice (some ⟨b,off,none⟩) len c)) (some (.int k (i:Int)))=some (.pointer (some ⟨b,off+i*s,none⟩)):=by
 show iS (i:Int) (HC P t (some (.slice (some ⟨b,off,none⟩) len c))) none=_;rw[fm];show af (pf P t) (λs=>bif Nat.blt i len then bo (Nat.add off (Nat.mul i s)) (λo=>some (Value.pointer (some ⟨b,o,none⟩)))else none) none=_;rw[hs,ax,show Nat.blt i len=true from Nat.ble_eq_true_of_le hi,cond_true,aP];rfl
theorem fX {t ty:TypeId}{a:Addr}{n c:Nat}(h:gA P (some t)=true):cv P #[t] ty (some [.slice (some a) n c])=some (.int .i64 (n:Int)):=by
 show(bif gA P (some t)then some (Value.int .i64 (.ofNat n))else none)=_;rw[h];rfl
@[simp] theorem Iy (a:Option Addr) (n c:Nat):uc (some false) (some 1) (.slice a n c)=some (.slice a n c):=rfl
@[simp] theorem sZ (a:Option Addr) (n c:Nat):aj (.slice a n c)=true:=rfl
@[simp] theorem z8 (u:Value):oe (some (aa u))=some (aa u):=rfl
@[simp] theorem u_ (a:Addr):oe (some (.pointer (some a)))=some (.pointer (some a)):=rfl
theorem Wq.va {f:FuncId}{args:List Value}{R1:Value->T OB->Nat->Prop}{k p:Value->T OB->Nat->Q}(hx:X f args=none)(h:dJ P pl X (aI P pl (.call f args false none H nx)) nx0 H0 R1)
 (hk:∀u H' nx',Ag nx0 H0 nx' H'->R1 u H' nx'->aF P pl X (k u H' nx') nx0 H0 R):aF P pl X (bQ (.call f args false none H nx) k p) nx0 H0 R:=by
 obtain⟨_,H1,av,h1,⟨u,rfl,hR1⟩,h2⟩:=h;obtain⟨v,H2,nx2,h3,hR,h4⟩:=hk u H1 av h1 hR1;refine⟨v,H2,nx2,h3,hR,?_⟩;show af (F P pl X (.call f args false none H nx)) (λr=>(match r.o with | .ret v=>k v r.H r.nx | .gv v=>p v r.H r.nx:Q).run (F P pl X)) none=_;have e1:F P pl X (.call f args false none H nx)=some ⟨.ret u,false,H1,av⟩:=by
  rw[p5];show @Option.rec Value (λ_=>Option Rt) _ (λv=>some ⟨.ret v,false,H,nx⟩) (X f args)=_;rw[hx];exact h2
 rw[e1];exact h4
theorem Wq.iF {f:FuncId}{args:List Value}{R1:Go.Ev.Out->T OB->Nat->Prop}{k p:Value->T OB->Nat->Q}(hx:X f args=none)(h:aF P pl X (aI P pl (.call f args false none H nx)) nx0 H0 R1)
 (hk:∀u H' nx',Ag nx0 H0 nx' H'->R1 (.ret u) H' nx'->aF P pl X (k u H' nx') nx0 H0 R) (hp:∀u H' nx',Ag nx0 H0 nx' H'->R1 (.gv u) H' nx'->aF P pl X (p u H' nx') nx0 H0 R):aF P pl X (bQ (.call f args false none H nx) k p) nx0 H0 R:=by
 obtain⟨o,H1,av,h1,hR1,h2⟩:=h;have e1:F P pl X (.call f args false none H nx)=some ⟨o,false,H1,av⟩:=by
  rw[p5];show @Option.rec Value (λ_=>Option Rt) _ (λv=>some ⟨.ret v,false,H,nx⟩) (X f args)=_;rw[hx];exact h2
 cases o with
 | ret u=>
   obtain⟨v,H2,nx2,h3,hR,h4⟩:=hk u H1 av h1 hR1;refine⟨v,H2,nx2,h3,hR,?_⟩;show af (F P pl X (.call f args false none H nx)) (λr=>(match r.o with | .ret v=>k v r.H r.nx | .gv v=>p v r.H r.nx:Q).run (F P pl X)) none=_;rw[e1];exact h4
 | gv u=>
   obtain⟨v,H2,nx2,h3,hR,h4⟩:=hp u H1 av h1 hR1;refine⟨v,H2,nx2,h3,hR,?_⟩;show af (F P pl X (.call f args false none H nx)) (λr=>(match r.o with | .ret v=>k v r.H r.nx | .gv v=>p v r.H r.nx:Q).run (F P pl X)) none=_;rw[e1];exact h4
theorem Wq.Iz {f:FuncId}{args:List Value}{k p:Value->T OB->Nat->Q}(hx:X f args=none)(h:Wq P pl X (aI P pl (.call f args false none H nx)) nx0 H0 u)
 (hk:∀H' nx',Ag nx0 H0 nx' H'->aF P pl X (k u H' nx') nx0 H0 R):aF P pl X (bQ (.call f args false none H nx) k p) nx0 H0 R:=
 Wq.va hx h λu' H' nx' hA hu=>by subst hu;exact hk H' nx' hA
theorem Ru {t e:TypeId}{x:Value}{k:Value->T OB->Nat->Q}(hu:P.underlying t=some (.slice e)):fM P t x H nx k=fl P t x H nx k:=by
 unfold fl;rw[hu]
theorem MO (ts:Array TypeId)(t:TypeId)(a b:Int):kJ P .max ts t (some [.int .i64 a,.int .i64 b])=some (.int .i64 (if b>a then b else a)):=by
 show(bif true&&(true&&true)then rP (cb P (builtin .max ts t #[] ⟨[.int .i64 a,.int .i64 b]⟩))else none)=_;have e:cb P (builtin .max ts t #[] ⟨[.int .i64 a,.int .i64 b]⟩)=some (.value (.int .i64 (if b>a then b else a))):=by
  simp only[builtin,Builtin.max_];simp[bE,Builtin.max2];rfl
 rw[e];show(rM (.int .i64 (if b>a then b else a)) λv=>bif flat v then some v else none)=_;rw[kR];rfl
theorem Wq.Rv {e t:TypeId}{l:List Value}{s:Nat}{x:Value}{k:T OB->Nat->Q}(hz:bT P e=some l)(hs:aN P t=some s)(hl:l.length=s)(hx:x.cells.toList.length=s)(hone:x.cells.toList.all aj=true)
 (h:Ag nx0 H0 nx H) (hk:∀H' nx',Ag nx0 H0 nx' H'->nx<=nx'->(∀b l e,b<nx->cA H b l e->cA H' b l e)->aF P pl X (k H' nx') nx0 H0 R):aF P pl X (aR (cD P H nx e) λp H nx=>cV P H nx t (some p) x k) nx0 H0 R:=by
 rw[kW hz];have hg:(Ev.set H (bits nx) (some (dq l e))).get (bits nx)=some (dq l e):=by rw[get_at,if_pos rfl]
 have e1:cV P (Ev.set H (bits nx) (some (dq l e))) (nx+1) t (some (lz nx)) x k=k (Ev.set (Ev.set H (bits nx) (some (dq l e))) (bits nx) (some .dead)) (nx+1+1):=by
  show nB ((Ev.set H (bits nx) (some (dq l e))).get (bits nx)) (λn _ _=>af (aN P t) (λs=>bif Nat.beq 0 0&&(Nat.beq n s&&(Nat.beq x.cells.toList.length s&&x.cells.toList.all aj))then
   dp (bits nx) (Ev.set H (bits nx) (some (dq l e))) (some .dead) λH=>Ev.bo (Nat.succ (nx+1)) λn=>k H n else .bad) .bad)=_
  rw[hg];show af (aN P t) (λs=>bif Nat.beq 0 0&&(Nat.beq l.length s&&(Nat.beq x.cells.toList.length s&&x.cells.toList.all aj))then
   dp (bits nx) (Ev.set H (bits nx) (some (dq l e))) (some .dead) λH=>Ev.bo (Nat.succ (nx+1)) λn=>k H n else .bad) .bad=_
  rw[hs,ax,hl,hx,hone,aL,aP];have e2:Nat.beq s s=true:=Nat.beq_refl s;rw[e2];rfl
 rw[e1];exact hk _ _ ((((h.set h.1 _).succ).set h.1 _).succ) (by omega) λb l e hb hi=>(hi.other (by omega) _).other (by omega) _
end
end
end Go.Ev
namespace Go.Proofs.YthjhonhhbddhkaaDoor
open Go.Ev Go.RowKit
noncomputable section
set_option maxRecDepth 100000
set_option linter.unusedVariables false
set_option linter.unusedSimpArgs false
set_option maxHeartbeats 8000000
@[simp] theorem Dc (c0 c1 c2 c3:Value):ae P 41 (some (aa (.agg ⟨[c0,c1,c2,c3]⟩))) 0=af (bif aj c0 then some c0 else none) (λx=>some (aa x)) none:=by kernel_rfl
@[simp] theorem Dd (c0 c1 c2 c3:Value):ae P 41 (some (aa (.agg ⟨[c0,c1,c2,c3]⟩))) 1=af (bif aj c1 then some c1 else none) (λx=>some (aa x)) none:=by kernel_rfl
@[simp] theorem De (c0 c1 c2 c3:Value):ae P 41 (some (aa (.agg ⟨[c0,c1,c2,c3]⟩))) 2=af (bif aj c2 then some c2 else none) (λx=>some (aa x)) none:=by kernel_rfl
@[simp] theorem Df (c0 c1 c2 c3:Value):ae P 41 (some (aa (.agg ⟨[c0,c1,c2,c3]⟩))) 3=af (bif aj c3 then some c3 else none) (λx=>some (aa x)) none:=by kernel_rfl
@[simp] theorem Dg (c0 c1 c2 c3 c4 c5:Value):ae P 44 (some (aa (.agg ⟨[c0,c1,c2,c3,c4,c5]⟩))) 0=af (bif aj c0 then some c0 else none) (λx=>some (aa x)) none:=by kernel_rfl
@[simp] theorem Dh (c0 c1 c2 c3 c4 c5:Value):ae P 44 (some (aa (.agg ⟨[c0,c1,c2,c3,c4,c5]⟩))) 1=af (bif aj c1 then some c1 else none) (λx=>some (aa x)) none:=by kernel_rfl
@[simp] theorem Di (c0 c1 c2 c3 c4 c5:Value):ae P 44 (some (aa (.agg ⟨[c0,c1,c2,c3,c4,c5]⟩))) 2=af (bif aj c2 then some c2 else none) (λx=>some (aa x)) none:=by kernel_rfl
@[simp] theorem Dj (c0 c1 c2 c3 c4 c5:Value):ae P 44 (some (aa (.agg ⟨[c0,c1,c2,c3,c4,c5]⟩))) 3=af (bif aj c3 then some c3 else none) (λx=>some (aa x)) none:=by kernel_rfl
@[simp] theorem Dk (c0 c1 c2 c3 c4 c5:Value):ae P 44 (some (aa (.agg ⟨[c0,c1,c2,c3,c4,c5]⟩))) 4=af (bif aj c4 then some c4 else none) (λx=>some (aa x)) none:=by kernel_rfl
@[simp] theorem Dl (c0 c1 c2 c3 c4 c5:Value):ae P 44 (some (aa (.agg ⟨[c0,c1,c2,c3,c4,c5]⟩))) 5=af (bif aj c5 then some c5 else none) (λx=>some (aa x)) none:=by kernel_rfl
@[simp] theorem Dm (c0 c1 c2:Value):ae P 49 (some (aa (.agg ⟨[c0,c1,c2]⟩))) 0=af (bif aj c0 then some c0 else none) (λx=>some (aa x)) none:=by kernel_rfl
@[simp] theorem Dn (c0 c1 c2:Value):ae P 49 (some (aa (.agg ⟨[c0,c1,c2]⟩))) 1=af (bif aj c1 then some c1 else none) (λx=>some (aa x)) none:=by kernel_rfl
@[simp] theorem Dp (c0 c1 c2:Value):ae P 49 (some (aa (.agg ⟨[c0,c1,c2]⟩))) 2=af (bif aj c2 then some c2 else none) (λx=>some (aa x)) none:=by kernel_rfl
@[simp] theorem Dq (c0 c1:Value):ae P 52 (some (aa (.agg ⟨[c0,c1]⟩))) 0=af (bif aj c0 then some c0 else none) (λx=>some (aa x)) none:=by kernel_rfl
@[simp] theorem Dr (c0 c1:Value):ae P 52 (some (aa (.agg ⟨[c0,c1]⟩))) 1=af (bif aj c1 then some c1 else none) (λx=>some (aa x)) none:=by kernel_rfl
@[simp] theorem Ds (c0 c1 c2 c3 c4 c5 c6 c7 c8 c9 c10 c11 c12 c13 c14 c15 c16:Value):ae P 54 (some (aa (.agg ⟨[c0,c1,c2,c3,c4,c5,c6,c7,c8,c9,c10,c11,c12,c13,c14,c15,c16]⟩))) 0=af (bif aj c0 then some c0 else none) (λx=>some (aa x)) none:=by kernel_rfl
@[simp] theorem Dt (c0 c1 c2 c3 c4 c5 c6 c7 c8 c9 c10 c11 c12 c13 c14 c15 c16:Value):ae P 54 (some (aa (.agg ⟨[c0,c1,c2,c3,c4,c5,c6,c7,c8,c9,c10,c11,c12,c13,c14,c15,c16]⟩))) 1=some (aa (.agg ⟨[c1,c2,c3,c4]⟩)):=by kernel_rfl
@[simp] theorem Du (c0 c1 c2 c3 c4 c5 c6 c7 c8 c9 c10 c11 c12 c13 c14 c15 c16:Value):ae P 54 (some (aa (.agg ⟨[c0,c1,c2,c3,c4,c5,c6,c7,c8,c9,c10,c11,c12,c13,c14,c15,c16]⟩))) 2=some (aa (.agg ⟨[c5,c6,c7,c8,c9,c10]⟩)):=by kernel_rfl
@[simp] theorem Dv (c0 c1 c2 c3 c4 c5 c6 c7 c8 c9 c10 c11 c12 c13 c14 c15 c16:Value):ae P 54 (some (aa (.agg ⟨[c0,c1,c2,c3,c4,c5,c6,c7,c8,c9,c10,c11,c12,c13,c14,c15,c16]⟩))) 3=af (bif aj c11 then some c11 else none) (λx=>some (aa x)) none:=by kernel_rfl
@[simp] theorem Dw (c0 c1 c2 c3 c4 c5 c6 c7 c8 c9 c10 c11 c12 c13 c14 c15 c16:Value):ae P 54 (some (aa (.agg ⟨[c0,c1,c2,c3,c4,c5,c6,c7,c8,c9,c10,c11,c12,c13,c14,c15,c16]⟩))) 4=some (aa (.agg ⟨[c12,c13,c14]⟩)):=by kernel_rfl
@[simp] theorem Dx (c0 c1 c2 c3 c4 c5 c6 c7 c8 c9 c10 c11 c12 c13 c14 c15 c16:Value):ae P 54 (some (aa (.agg ⟨[c0,c1,c2,c3,c4,c5,c6,c7,c8,c9,c10,c11,c12,c13,c14,c15,c16]⟩))) 5=some (aa (.agg ⟨[c15,c16]⟩)):=by kernel_rfl
@[simp] theorem Dy (c0 c1 c2 c3 c4 c5 c6 c7:Value):ae P 64 (some (aa (.agg ⟨[c0,c1,c2,c3,c4,c5,c6,c7]⟩))) 0=af (bif aj c0 then some c0 else none) (λx=>some (aa x)) none:=by kernel_rfl
@[simp] theorem Dz (c0 c1 c2 c3 c4 c5 c6 c7:Value):ae P 64 (some (aa (.agg ⟨[c0,c1,c2,c3,c4,c5,c6,c7]⟩))) 1=af (bif aj c1 then some c1 else none) (λx=>some (aa x)) none:=by kernel_rfl
@[simp] theorem DA (c0 c1 c2 c3 c4 c5 c6 c7:Value):ae P 64 (some (aa (.agg ⟨[c0,c1,c2,c3,c4,c5,c6,c7]⟩))) 2=some (aa (.agg ⟨[c2,c3,c4,c5,c6,c7]⟩)):=by kernel_rfl
@[simp] theorem DB (c0 c1:Value):ae P 68 (some (aa (.agg ⟨[c0,c1]⟩))) 0=af (bif aj c0 then some c0 else none) (λx=>some (aa x)) none:=by kernel_rfl
@[simp] theorem DC (c0 c1:Value):ae P 68 (some (aa (.agg ⟨[c0,c1]⟩))) 1=af (bif aj c1 then some c1 else none) (λx=>some (aa x)) none:=by kernel_rfl
@[simp] theorem DD (c0 c1 c2 c3:Value):ae P 70 (some (aa (.agg ⟨[c0,c1,c2,c3]⟩))) 0=af (bif aj c0 then some c0 else none) (λx=>some (aa x)) none:=by kernel_rfl
@[simp] theorem DF (c0 c1 c2 c3:Value):ae P 70 (some (aa (.agg ⟨[c0,c1,c2,c3]⟩))) 1=af (bif aj c1 then some c1 else none) (λx=>some (aa x)) none:=by kernel_rfl
@[simp] theorem DG (c0 c1 c2 c3:Value):ae P 70 (some (aa (.agg ⟨[c0,c1,c2,c3]⟩))) 2=af (bif aj c2 then some c2 else none) (λx=>some (aa x)) none:=by kernel_rfl
@[simp] theorem DH (c0:Value):ae P 75 (some (aa (.agg ⟨[c0]⟩))) 0=af (bif aj c0 then some c0 else none) (λx=>some (aa x)) none:=by kernel_rfl
@[simp] theorem DI (c0 c1:Value):ae P 79 (some (aa (.agg ⟨[c0,c1]⟩))) 0=af (bif aj c0 then some c0 else none) (λx=>some (aa x)) none:=by kernel_rfl
@[simp] theorem DJ (c0 c1:Value):ae P 79 (some (aa (.agg ⟨[c0,c1]⟩))) 1=af (bif aj c1 then some c1 else none) (λx=>some (aa x)) none:=by kernel_rfl
@[simp] theorem DK (c0 c1 c2:Value):ae P 84 (some (aa (.agg ⟨[c0,c1,c2]⟩))) 0=af (bif aj c0 then some c0 else none) (λx=>some (aa x)) none:=by kernel_rfl
@[simp] theorem DL (c0 c1 c2:Value):ae P 84 (some (aa (.agg ⟨[c0,c1,c2]⟩))) 1=af (bif aj c1 then some c1 else none) (λx=>some (aa x)) none:=by kernel_rfl
@[simp] theorem DM (c0 c1 c2:Value):ae P 84 (some (aa (.agg ⟨[c0,c1,c2]⟩))) 2=af (bif aj c2 then some c2 else none) (λx=>some (aa x)) none:=by kernel_rfl
@[simp] theorem DN (c0 c1:Value):ae P 88 (some (aa (.agg ⟨[c0,c1]⟩))) 0=af (bif aj c0 then some c0 else none) (λx=>some (aa x)) none:=by kernel_rfl
@[simp] theorem DO (c0 c1:Value):ae P 88 (some (aa (.agg ⟨[c0,c1]⟩))) 1=af (bif aj c1 then some c1 else none) (λx=>some (aa x)) none:=by kernel_rfl
@[simp] theorem z9 (c0 c1:Value):ae P 145 (some (aa (.agg ⟨[c0,c1]⟩))) 0=af (bif aj c0 then some c0 else none) (λx=>some (aa x)) none:=by kernel_rfl
@[simp] theorem z_ (c0 c1:Value):ae P 145 (some (aa (.agg ⟨[c0,c1]⟩))) 1=af (bif aj c1 then some c1 else none) (λx=>some (aa x)) none:=by kernel_rfl
@[simp] theorem rz (b:Nat):ae P 41 (some (.pointer (some ⟨b,0,none⟩))) 0=some (.pointer (some ⟨b,0,none⟩)):=by kernel_rfl
@[simp] theorem jE (b:Nat):ae P 41 (some (.pointer (some ⟨b,0,none⟩))) 1=some (.pointer (some ⟨b,1,none⟩)):=by kernel_rfl
@[simp] theorem mM (b:Nat):ae P 41 (some (.pointer (some ⟨b,0,none⟩))) 2=some (.pointer (some ⟨b,2,none⟩)):=by kernel_rfl
@[simp] theorem oO (b:Nat):ae P 41 (some (.pointer (some ⟨b,0,none⟩))) 3=some (.pointer (some ⟨b,3,none⟩)):=by kernel_rfl
@[simp] theorem wi (b:Nat):ae P 44 (some (.pointer (some ⟨b,0,none⟩))) 0=some (.pointer (some ⟨b,0,none⟩)):=by kernel_rfl
@[simp] theorem wj (b:Nat):ae P 44 (some (.pointer (some ⟨b,0,none⟩))) 1=some (.pointer (some ⟨b,1,none⟩)):=by kernel_rfl
@[simp] theorem wk (b:Nat):ae P 44 (some (.pointer (some ⟨b,0,none⟩))) 2=some (.pointer (some ⟨b,2,none⟩)):=by kernel_rfl
@[simp] theorem wm (b:Nat):ae P 44 (some (.pointer (some ⟨b,0,none⟩))) 3=some (.pointer (some ⟨b,3,none⟩)):=by kernel_rfl
@[simp] theorem wo (b:Nat):ae P 44 (some (.pointer (some ⟨b,0,none⟩))) 4=some (.pointer (some ⟨b,4,none⟩)):=by kernel_rfl
@[simp] theorem wq (b:Nat):ae P 44 (some (.pointer (some ⟨b,0,none⟩))) 5=some (.pointer (some ⟨b,5,none⟩)):=by kernel_rfl
@[simp] theorem DP (b:Nat):ae P 49 (some (.pointer (some ⟨b,0,none⟩))) 0=some (.pointer (some ⟨b,0,none⟩)):=by kernel_rfl
@[simp] theorem DQ (b:Nat):ae P 49 (some (.pointer (some ⟨b,0,none⟩))) 1=some (.pointer (some ⟨b,1,none⟩)):=by kernel_rfl
@[simp] theorem DR (b:Nat):ae P 49 (some (.pointer (some ⟨b,0,none⟩))) 2=some (.pointer (some ⟨b,2,none⟩)):=by kernel_rfl
@[simp] theorem DS (b:Nat):ae P 52 (some (.pointer (some ⟨b,0,none⟩))) 0=some (.pointer (some ⟨b,0,none⟩)):=by kernel_rfl
@[simp] theorem DT (b:Nat):ae P 52 (some (.pointer (some ⟨b,0,none⟩))) 1=some (.pointer (some ⟨b,1,none⟩)):=by kernel_rfl
@[simp] theorem wu (b:Nat):ae P 54 (some (.pointer (some ⟨b,0,none⟩))) 0=some (.pointer (some ⟨b,0,none⟩)):=by kernel_rfl
@[simp] theorem wv (b:Nat):ae P 54 (some (.pointer (some ⟨b,0,none⟩))) 1=some (.pointer (some ⟨b,1,none⟩)):=by kernel_rfl
@[simp] theorem wx (b:Nat):ae P 54 (some (.pointer (some ⟨b,0,none⟩))) 2=some (.pointer (some ⟨b,5,none⟩)):=by kernel_rfl
@[simp] theorem oP (b:Nat):ae P 54 (some (.pointer (some ⟨b,0,none⟩))) 3=some (.pointer (some ⟨b,11,none⟩)):=by kernel_rfl
@[simp] theorem wy (b:Nat):ae P 54 (some (.pointer (some ⟨b,0,none⟩))) 4=some (.pointer (some ⟨b,12,none⟩)):=by kernel_rfl
@[simp] theorem wz (b:Nat):ae P 54 (some (.pointer (some ⟨b,0,none⟩))) 5=some (.pointer (some ⟨b,15,none⟩)):=by kernel_rfl
@[simp] theorem wA (b:Nat):ae P 64 (some (.pointer (some ⟨b,0,none⟩))) 0=some (.pointer (some ⟨b,0,none⟩)):=by kernel_rfl
@[simp] theorem wB (b:Nat):ae P 64 (some (.pointer (some ⟨b,0,none⟩))) 1=some (.pointer (some ⟨b,1,none⟩)):=by kernel_rfl
@[simp] theorem wC (b:Nat):ae P 64 (some (.pointer (some ⟨b,0,none⟩))) 2=some (.pointer (some ⟨b,2,none⟩)):=by kernel_rfl
@[simp] theorem DU (b:Nat):ae P 68 (some (.pointer (some ⟨b,0,none⟩))) 0=some (.pointer (some ⟨b,0,none⟩)):=by kernel_rfl
@[simp] theorem DW (b:Nat):ae P 68 (some (.pointer (some ⟨b,0,none⟩))) 1=some (.pointer (some ⟨b,1,none⟩)):=by kernel_rfl
@[simp] theorem DX (b:Nat):ae P 70 (some (.pointer (some ⟨b,0,none⟩))) 0=some (.pointer (some ⟨b,0,none⟩)):=by kernel_rfl
@[simp] theorem DY (b:Nat):ae P 70 (some (.pointer (some ⟨b,0,none⟩))) 1=some (.pointer (some ⟨b,1,none⟩)):=by kernel_rfl
@[simp] theorem DZ (b:Nat):ae P 70 (some (.pointer (some ⟨b,0,none⟩))) 2=some (.pointer (some ⟨b,2,none⟩)):=by kernel_rfl
@[simp] theorem D0 (b:Nat):ae P 70 (some (.pointer (some ⟨b,0,none⟩))) 3=some (.pointer (some ⟨b,3,none⟩)):=by kernel_rfl
@[simp] theorem D1 (b:Nat):ae P 75 (some (.pointer (some ⟨b,0,none⟩))) 0=some (.pointer (some ⟨b,0,none⟩)):=by kernel_rfl
@[simp] theorem D2 (b:Nat):ae P 79 (some (.pointer (some ⟨b,0,none⟩))) 0=some (.pointer (some ⟨b,0,none⟩)):=by kernel_rfl
@[simp] theorem D3 (b:Nat):ae P 79 (some (.pointer (some ⟨b,0,none⟩))) 1=some (.pointer (some ⟨b,1,none⟩)):=by kernel_rfl
@[simp] theorem D4 (b:Nat):ae P 84 (some (.pointer (some ⟨b,0,none⟩))) 0=some (.pointer (some ⟨b,0,none⟩)):=by kernel_rfl
@[simp] theorem D5 (b:Nat):ae P 84 (some (.pointer (some ⟨b,0,none⟩))) 1=some (.pointer (some ⟨b,1,none⟩)):=by kernel_rfl
@[simp] theorem D6 (b:Nat):ae P 84 (some (.pointer (some ⟨b,0,none⟩))) 2=some (.pointer (some ⟨b,2,none⟩)):=by kernel_rfl
@[simp] theorem oQ (b:Nat):ae P 88 (some (.pointer (some ⟨b,0,none⟩))) 0=some (.pointer (some ⟨b,0,none⟩)):=by kernel_rfl
@[simp] theorem gb (b:Nat):ae P 88 (some (.pointer (some ⟨b,0,none⟩))) 1=some (.pointer (some ⟨b,1,none⟩)):=by kernel_rfl
@[simp] theorem Aa (b:Nat):ae P 145 (some (.pointer (some ⟨b,0,none⟩))) 0=some (.pointer (some ⟨b,0,none⟩)):=by kernel_rfl
@[simp] theorem Ab (b:Nat):ae P 145 (some (.pointer (some ⟨b,0,none⟩))) 1=some (.pointer (some ⟨b,1,none⟩)):=by kernel_rfl
@[simp] theorem D7 (c0 c1 c2 c3:Value):rdField P 70 (some (.agg ⟨[c0,c1,c2,c3]⟩)) 0=some c0:=by kernel_rfl
@[simp] theorem D8 (c0 c1 c2 c3:Value):rdField P 70 (some (.agg ⟨[c0,c1,c2,c3]⟩)) 1=some c1:=by kernel_rfl
@[simp] theorem D9 (c0 c1 c2 c3:Value):rdField P 70 (some (.agg ⟨[c0,c1,c2,c3]⟩)) 2=some c2:=by kernel_rfl
@[simp] theorem D_ (c0 c1 c2 c3:Value):rdField P 70 (some (.agg ⟨[c0,c1,c2,c3]⟩)) 3=some c3:=by kernel_rfl
@[simp] theorem Vd (H:T OB) (u:Value):ai P H 2 (some (aa u))=uc (some false) (some 1) u:=by kernel_rfl
@[simp] theorem Ve (H:T OB) (u:Value):ai P H 3 (some (aa u))=uc (some false) (some 1) u:=by kernel_rfl
@[simp] theorem Vf (H:T OB) (u:Value):ai P H 4 (some (aa u))=uc (some false) (some 1) u:=by kernel_rfl
@[simp] theorem Vg (H:T OB) (u:Value):ai P H 9 (some (aa u))=uc (some false) (some 1) u:=by kernel_rfl
@[simp] theorem Po (H:T OB) (u:Value):ai P H 23 (some (aa u))=uc (some false) (some 1) u:=by kernel_rfl
@[simp] theorem Pp (H:T OB) (u:Value):ai P H 24 (some (aa u))=uc (some false) (some 1) u:=by kernel_rfl
@[simp] theorem Pq (H:T OB) (u:Value):ai P H 35 (some (aa u))=uc (some false) (some 1) u:=by kernel_rfl
@[simp] theorem Pr (H:T OB) (u:Value):ai P H 39 (some (aa u))=uc (some false) (some 1) u:=by kernel_rfl
@[simp] theorem IA (H:T OB) (c0 c1 c2 c3:Value):ai P H 41 (some (aa (.agg ⟨[c0,c1,c2,c3]⟩)))=some (.agg ⟨[c0,c1,c2,c3]⟩):=by kernel_rfl
@[simp] theorem Pt (H:T OB) (u:Value):ai P H 42 (some (aa u))=uc (some false) (some 1) u:=by kernel_rfl
@[simp] theorem IB (H:T OB) (c0 c1 c2 c3 c4 c5:Value):ai P H 44 (some (aa (.agg ⟨[c0,c1,c2,c3,c4,c5]⟩)))=some (.agg ⟨[c0,c1,c2,c3,c4,c5]⟩):=by kernel_rfl
@[simp] theorem Pu (H:T OB) (u:Value):ai P H 45 (some (aa u))=uc (some false) (some 1) u:=by kernel_rfl
@[simp] theorem Pv (H:T OB) (u:Value):ai P H 46 (some (aa u))=uc (some false) (some 1) u:=by kernel_rfl
@[simp] theorem Pw (H:T OB) (u:Value):ai P H 47 (some (aa u))=uc (some false) (some 1) u:=by kernel_rfl
@[simp] theorem Px (H:T OB) (c0 c1 c2:Value):ai P H 49 (some (aa (.agg ⟨[c0,c1,c2]⟩)))=some (.agg ⟨[c0,c1,c2]⟩):=by kernel_rfl
@[simp] theorem Py (H:T OB) (u:Value):ai P H 50 (some (aa u))=uc (some false) (some 1) u:=by kernel_rfl
@[simp] theorem Pz (H:T OB) (c0 c1:Value):ai P H 52 (some (aa (.agg ⟨[c0,c1]⟩)))=some (.agg ⟨[c0,c1]⟩):=by kernel_rfl
@[simp] theorem IC (H:T OB) (c0 c1 c2 c3 c4 c5 c6 c7 c8 c9 c10 c11 c12 c13 c14 c15 c16:Value):ai P H 54 (some (aa (.agg ⟨[c0,c1,c2,c3,c4,c5,c6,c7,c8,c9,c10,c11,c12,c13,c14,c15,c16]⟩)))=some (.agg ⟨[c0,c1,c2,c3,c4,c5,c6,c7,c8,c9,c10,c11,c12,c13,c14,c15,c16]⟩):=by kernel_rfl
@[simp] theorem PA (H:T OB) (c0 c1 c2 c3 c4 c5 c6 c7:Value):ai P H 64 (some (aa (.agg ⟨[c0,c1,c2,c3,c4,c5,c6,c7]⟩)))=some (.agg ⟨[c0,c1,c2,c3,c4,c5,c6,c7]⟩):=by kernel_rfl
@[simp] theorem PB (H:T OB) (c0 c1 c2 c3:Value):ai P H 70 (some (aa (.agg ⟨[c0,c1,c2,c3]⟩)))=some (.agg ⟨[c0,c1,c2,c3]⟩):=by kernel_rfl
@[simp] theorem PC (H:T OB) (c0 c1 c2:Value):ai P H 84 (some (aa (.agg ⟨[c0,c1,c2]⟩)))=some (.agg ⟨[c0,c1,c2]⟩):=by kernel_rfl
@[simp] theorem ID (H:T OB) (c0 c1 c2 c3 c4 c5 c6 c7 c8 c9 c10 c11 c12 c13 c14 c15 c16 c17 c18 c19 c20 c21:Value):ai P H 103 (some (aa (.agg ⟨[c0,c1,c2,c3,c4,c5,c6,c7,c8,c9,c10,c11,c12,c13,c14,c15,c16,c17,c18,c19,c20,c21]⟩)))=some (.agg ⟨[c0,c1,c2,c3,c4,c5,c6,c7,c8,c9,c10,c11,c12,c13,c14,c15,c16,c17,c18,c19,c20,c21]⟩):=by kernel_rfl
@[simp] theorem IE (H:T OB) (c0 c1 c2 c3 c4 c5 c6:Value):ai P H 140 (some (aa (.agg ⟨[c0,c1,c2,c3,c4,c5,c6]⟩)))=some (.agg ⟨[c0,c1,c2,c3,c4,c5,c6]⟩):=by kernel_rfl
theorem Ac {es:List Value}{i:Nat}{u:Value}(h:es[i]? = some u)(k:IntKind):bc P 23 (some (aM 17 es)) (some (.int k (i:Int)))=some (aa u):=ez (by kernel_rfl) h k
theorem IF {es:List Value}{i:Nat}{u:Value}(h:es[i]? = some u)(k:IntKind):bc P 35 (some (aM 4 es)) (some (.int k (i:Int)))=some (aa u):=ez (by kernel_rfl) h k
theorem ke {es:List Value}{i:Nat}{u:Value}(h:es[i]? = some u)(k:IntKind):bc P 39 (some (aM 4 es)) (some (.int k (i:Int)))=some (aa u):=ez (by kernel_rfl) h k
theorem i_ {es:List Value}{i:Nat}{u:Value}(h:es[i]? = some u)(k:IntKind):bc P 42 (some (aM 6 es)) (some (.int k (i:Int)))=some (aa u):=ez (by kernel_rfl) h k
theorem Ea {es:List Value}{i:Nat}{u:Value}(h:es[i]? = some u)(k:IntKind):bc P 45 (some (aM 8 es)) (some (.int k (i:Int)))=some (aa u):=ez (by kernel_rfl) h k
theorem Eb {es:List Value}{i:Nat}{u:Value}(h:es[i]? = some u)(k:IntKind):bc P 46 (some (aM 1 es)) (some (.int k (i:Int)))=some (aa u):=ez (by kernel_rfl) h k
theorem Ec {es:List Value}{i:Nat}{u:Value}(h:es[i]? = some u)(k:IntKind):bc P 47 (some (aM 2 es)) (some (.int k (i:Int)))=some (aa u):=ez (by kernel_rfl) h k
theorem qH {es:List Value}{i:Nat}{u:Value}(h:es[i]? = some u)(k:IntKind):bc P 50 (some (aM 3 es)) (some (.int k (i:Int)))=some (aa u):=ez (by kernel_rfl) h k
theorem IG {b off len c i:Nat}(h:i<len)(k:IntKind):bc P 46 (some (.slice (some ⟨b,off,none⟩) len c)) (some (.int k (i:Int)))=some (.pointer (some ⟨b,off+i*1,none⟩)):=BK (by kernel_rfl) h k
theorem iA:P.underlying 23=some (.slice 54):=by kernel_rfl
theorem kZ:P.underlying 35=some (.slice 70):=by kernel_rfl
theorem eX:P.underlying 39=some (.slice 41):=by kernel_rfl
theorem gh:P.underlying 42=some (.slice 44):=by kernel_rfl
theorem s9:P.underlying 45=some (.slice 64):=by kernel_rfl
theorem s_:P.underlying 46=some (.slice 9):=by kernel_rfl
theorem ta:P.underlying 47=some (.slice 52):=by kernel_rfl
theorem gE:P.underlying 50=some (.slice 84):=by kernel_rfl
theorem eY:P.underlying 92=some (.slice 5):=by kernel_rfl
@[simp] theorem PD (s:ByteArray) (ty:TypeId):cv P #[9] ty (some [.string s])=some (.int .i64 (s.size:Int)):=aT s (by kernel_rfl)
@[simp] theorem IH (s:Nat) (es:List Value) (ty:TypeId):cv P #[23] ty (some [aM s es])=some (.int .i64 (es.length:Int)):=eU s es (by kernel_rfl)
@[simp] theorem Ed (ty:TypeId) (a:Addr) (n c:Nat):cv P #[23] ty (some [.slice (some a) n c])=some (.int .i64 (n:Int)):=fX (by kernel_rfl)
@[simp] theorem Ee (ty:TypeId):cv P #[23] ty (some [.slice none 0 0])=some (.int .i64 0):=by kernel_rfl
@[simp] theorem II (s:Nat) (es:List Value) (ty:TypeId):cv P #[35] ty (some [aM s es])=some (.int .i64 (es.length:Int)):=eU s es (by kernel_rfl)
@[simp] theorem Ef (ty:TypeId) (a:Addr) (n c:Nat):cv P #[35] ty (some [.slice (some a) n c])=some (.int .i64 (n:Int)):=fX (by kernel_rfl)
@[simp] theorem Eg (ty:TypeId):cv P #[35] ty (some [.slice none 0 0])=some (.int .i64 0):=by kernel_rfl
@[simp] theorem IJ (s:Nat) (es:List Value) (ty:TypeId):cv P #[39] ty (some [aM s es])=some (.int .i64 (es.length:Int)):=eU s es (by kernel_rfl)
@[simp] theorem Eh (ty:TypeId) (a:Addr) (n c:Nat):cv P #[39] ty (some [.slice (some a) n c])=some (.int .i64 (n:Int)):=fX (by kernel_rfl)
@[simp] theorem Ei (ty:TypeId):cv P #[39] ty (some [.slice none 0 0])=some (.int .i64 0):=by kernel_rfl
@[simp] theorem IK (s:Nat) (es:List Value) (ty:TypeId):cv P #[42] ty (some [aM s es])=some (.int .i64 (es.length:Int)):=eU s es (by kernel_rfl)
@[simp] theorem Ej (ty:TypeId) (a:Addr) (n c:Nat):cv P #[42] ty (some [.slice (some a) n c])=some (.int .i64 (n:Int)):=fX (by kernel_rfl)
@[simp] theorem Ek (ty:TypeId):cv P #[42] ty (some [.slice none 0 0])=some (.int .i64 0):=by kernel_rfl
@[simp] theorem wD (s:Nat) (es:List Value) (ty:TypeId):cv P #[45] ty (some [aM s es])=some (.int .i64 (es.length:Int)):=eU s es (by kernel_rfl)
@[simp] theorem El (ty:TypeId) (a:Addr) (n c:Nat):cv P #[45] ty (some [.slice (some a) n c])=some (.int .i64 (n:Int)):=fX (by kernel_rfl)
@[simp] theorem wE (ty:TypeId):cv P #[45] ty (some [.slice none 0 0])=some (.int .i64 0):=by kernel_rfl
@[simp] theorem IL (s:Nat) (es:List Value) (ty:TypeId):cv P #[46] ty (some [aM s es])=some (.int .i64 (es.length:Int)):=eU s es (by kernel_rfl)
@[simp] theorem Em (ty:TypeId) (a:Addr) (n c:Nat):cv P #[46] ty (some [.slice (some a) n c])=some (.int .i64 (n:Int)):=fX (by kernel_rfl)
@[simp] theorem En (ty:TypeId):cv P #[46] ty (some [.slice none 0 0])=some (.int .i64 0):=by kernel_rfl
@[simp] theorem IM (s:Nat) (es:List Value) (ty:TypeId):cv P #[47] ty (some [aM s es])=some (.int .i64 (es.length:Int)):=eU s es (by kernel_rfl)
@[simp] theorem Eo (ty:TypeId) (a:Addr) (n c:Nat):cv P #[47] ty (some [.slice (some a) n c])=some (.int .i64 (n:Int)):=fX (by kernel_rfl)
@[simp] theorem Ep (ty:TypeId):cv P #[47] ty (some [.slice none 0 0])=some (.int .i64 0):=by kernel_rfl
@[simp] theorem IN (s:Nat) (es:List Value) (ty:TypeId):cv P #[50] ty (some [aM s es])=some (.int .i64 (es.length:Int)):=eU s es (by kernel_rfl)
@[simp] theorem Er (ty:TypeId) (a:Addr) (n c:Nat):cv P #[50] ty (some [.slice (some a) n c])=some (.int .i64 (n:Int)):=fX (by kernel_rfl)
@[simp] theorem Es (ty:TypeId):cv P #[50] ty (some [.slice none 0 0])=some (.int .i64 0):=by kernel_rfl
@[simp] theorem IP (s:Nat) (es:List Value) (ty:TypeId):cv P #[92] ty (some [aM s es])=some (.int .i64 (es.length:Int)):=eU s es (by kernel_rfl)
@[simp] theorem wF (ty:TypeId) (a:Addr) (n c:Nat):cv P #[92] ty (some [.slice (some a) n c])=some (.int .i64 (n:Int)):=fX (by kernel_rfl)
@[simp] theorem wG (ty:TypeId):cv P #[92] ty (some [.slice none 0 0])=some (.int .i64 0):=by kernel_rfl
theorem Rw:bT P 3=some [(.int .i64 0)]:=by kernel_rfl
theorem MP:bT P 23=some [(.slice none 0 0)]:=by kernel_rfl
theorem MQ:bT P 24=some [(.int .i64 0)]:=by kernel_rfl
theorem cR:bT P 41=some [(.int .i64 0),(.int .i64 0),(.string ⟨⟨[]⟩⟩),(.slice none 0 0)]:=by kernel_rfl
theorem bI:bT P 44=some [(.int .i64 0),(.int .i64 0),(.string ⟨⟨[]⟩⟩),(.slice none 0 0),(.slice none 0 0),(.slice none 0 0)]:=by kernel_rfl
theorem MR:bT P 49=some [(.slice none 0 0),(.string ⟨⟨[]⟩⟩),(.slice none 0 0)]:=by kernel_rfl
theorem jF:bT P 52=some [(.string ⟨⟨[]⟩⟩),(.slice none 0 0)]:=by kernel_rfl
theorem dx:bT P 54=some [(.int .i64 0),(.int .i64 0),(.int .i64 0),(.string ⟨⟨[]⟩⟩),(.slice none 0 0),(.int .i64 0),(.int .i64 0),(.string ⟨⟨[]⟩⟩),(.slice none 0 0),(.slice none 0 0),(.slice none 0 0),(.slice none 0 0),(.slice none 0 0),(.string ⟨⟨[]⟩⟩),(.slice none 0 0),(.string ⟨⟨[]⟩⟩),(.slice none 0 0)]:=by kernel_rfl
theorem hU:bT P 64=some [(.string ⟨⟨[]⟩⟩),(.slice none 0 0),(.int .i64 0),(.int .i64 0),(.string ⟨⟨[]⟩⟩),(.slice none 0 0),(.slice none 0 0),(.slice none 0 0)]:=by kernel_rfl
theorem dS:bT P 70=some [(.int .i64 0),(.string ⟨⟨[]⟩⟩),(.int .i64 0),(.int .i64 0)]:=by kernel_rfl
theorem MS:bT P 75=some [(.int .i64 0)]:=by kernel_rfl
theorem dy:bT P 84=some [(.int .i64 0),(.string ⟨⟨[]⟩⟩),(.slice none 0 0)]:=by kernel_rfl
theorem IQ:bT P 118=some [(.int .u8 0),(.int .u8 0),(.int .u8 0),(.int .u8 0),(.int .u8 0),(.int .u8 0),(.int .u8 0),(.int .u8 0),(.int .u8 0),(.int .u8 0),(.int .u8 0),(.int .u8 0),(.int .u8 0),(.int .u8 0),(.int .u8 0),(.int .u8 0),(.int .u8 0),(.int .u8 0),(.int .u8 0),(.int .u8 0)]:=by kernel_rfl
theorem IS:bT P 145=some [(.string ⟨⟨[]⟩⟩),(.int .i64 0)]:=by kernel_rfl
theorem PF:dG P 2=some false:=by kernel_rfl
theorem oR:dG P 3=some false:=by kernel_rfl
theorem IT:dG P 4=some false:=by kernel_rfl
theorem Vh:dG P 5=some false:=by kernel_rfl
theorem nm:dG P 9=some false:=by kernel_rfl
theorem ma:dG P 23=some false:=by kernel_rfl
theorem wH:dG P 24=some false:=by kernel_rfl
theorem wI:dG P 35=some false:=by kernel_rfl
theorem iB:dG P 39=some false:=by kernel_rfl
theorem ft:dG P 41=some true:=by kernel_rfl
theorem jT:dG P 42=some false:=by kernel_rfl
theorem dN:dG P 44=some true:=by kernel_rfl
theorem wJ:dG P 45=some false:=by kernel_rfl
theorem wK:dG P 46=some false:=by kernel_rfl
theorem BL:dG P 47=some false:=by kernel_rfl
theorem IU:dG P 49=some true:=by kernel_rfl
theorem BM:dG P 50=some false:=by kernel_rfl
theorem tb:dG P 52=some true:=by kernel_rfl
theorem k_:dG P 54=some true:=by kernel_rfl
theorem BN:dG P 64=some true:=by kernel_rfl
theorem nO:dG P 70=some true:=by kernel_rfl
theorem nP:dG P 84=some true:=by kernel_rfl
theorem MT:dG P 103=some true:=by kernel_rfl
theorem MU:dG P 140=some true:=by kernel_rfl
theorem Rx:aN P 2=some 1:=by kernel_rfl
theorem mW:aN P 3=some 1:=by kernel_rfl
theorem X8:aN P 4=some 1:=by kernel_rfl
theorem iC:aN P 5=some 1:=by kernel_rfl
theorem mX:aN P 9=some 1:=by kernel_rfl
theorem vb:aN P 23=some 1:=by kernel_rfl
theorem Et:aN P 24=some 1:=by kernel_rfl
theorem PG:aN P 35=some 1:=by kernel_rfl
theorem Eu:aN P 39=some 1:=by kernel_rfl
theorem dj:aN P 41=some 4:=by kernel_rfl
theorem Ew:aN P 42=some 1:=by kernel_rfl
theorem cj:aN P 44=some 6:=by kernel_rfl
theorem Vi:aN P 45=some 1:=by kernel_rfl
theorem IV:aN P 46=some 1:=by kernel_rfl
theorem PH:aN P 47=some 1:=by kernel_rfl
theorem PJ:aN P 49=some 3:=by kernel_rfl
theorem PK:aN P 50=some 1:=by kernel_rfl
theorem mb:aN P 52=some 2:=by kernel_rfl
theorem fJ:aN P 54=some 17:=by kernel_rfl
theorem mc:aN P 64=some 8:=by kernel_rfl
theorem eA:aN P 70=some 4:=by kernel_rfl
theorem Vj:aN P 75=some 1:=by kernel_rfl
theorem ej:aN P 84=some 3:=by kernel_rfl
theorem Ry:aN P 103=some 22:=by kernel_rfl
theorem Rz:aN P 140=some 7:=by kernel_rfl
theorem RA:aN P 145=some 2:=by kernel_rfl
theorem cT {α:Type}(a b:α):(bif true then a else b)=a:=rfl
theorem cF {α:Type}(a b:α):(bif false then a else b)=b:=rfl
theorem eS {α:Type}(a:α):(a=a)=True:=eq_self a
theorem lN {α:Type}:([]:List α).length=0:=rfl
theorem Vk (op:BinOp)(ty:TypeId)(b:Bool)(x y:Value)(H:T OB)(k:Value->Q):pB op ty b x y H k=af (cZ P H op ty b (some x) (some y)) k .bad:=rfl
theorem RB (op:BinOp)(ty:TypeId)(b:Bool)(x y:Value)(H:T OB)(A B:Q):pT op ty b x y H A B=af (cZ P H op ty b (some x) (some y)) (λz=>Mr z (λc=>bK c A B) .bad) .bad:=rfl
theorem Gt (ty:TypeId)(x:Value)(H:T OB)(k:Value->Q):pL ty x H k=af (ai P H ty (some x)) k .bad:=rfl
theorem RC (t:TypeId)(x:Value)(n:Nat)(k:Value->Q):pF t x n k=af (ae P t (some x) n) k .bad:=rfl
theorem Vl (t:TypeId)(x:Value)(n:Nat)(ty:TypeId)(H:T OB)(k:Value->Q):pX t x n ty H k=af (ae P t (some x) n) (λa=>af (ai P H ty (some a)) k .bad) .bad:=rfl
theorem Vm (t ty:TypeId)(x:Value)(k:Value->Q):pN t ty x k=af (cv P #[t] ty (some [x])) k .bad:=rfl
theorem Vn (t:TypeId)(x y:Value)(k:Value->Q):pA t x y k=af (bc P t (some x) (some y)) k .bad:=rfl
theorem Vo (t:TypeId)(x y:Value)(k:Value->Q):pI t x y k=af (cC P t (some x) (some y)) k .bad:=rfl
theorem RD (x:Value)(n:Nat)(k:Value->Q):pE x n k=af (bk (some x) n) k .bad:=rfl
theorem Vp (x:Value)(k:Value->Q):pY x k=af (oe (some x)) k .bad:=rfl
theorem Vq (t:TypeId)(l:List (Nat×Value))(k:Value->Q):pD t l k=af (a9 P t (some l)) k .bad:=rfl
theorem MV (x:Option Value)(k:Value->Q):pO x k=af x k .bad:=rfl
theorem Vr (x:Value)(A B:Q):pV x A B=Mr x (λc=>bK c A B) .bad:=rfl
theorem RE (x:Value)(k:Bool->Q):pW x k=Mr x k .bad:=rfl
theorem Vs (f:FuncId)(l:List Value)(H:T OB)(nx:Nat)(k:Value->T OB->Nat->Q):pC f l H nx k=bQ (.call f l false none H nx) k gg:=rfl
theorem Vt (v:Value)(H:T OB)(nx:Nat):pR v H nx= .ret ⟨.ret v,false,H,nx⟩:=rfl
theorem RF (ty:TypeId)(a v:Value)(H:T OB)(nx:Nat)(k:Value->T OB->Nat->Q):pS ty a v H nx k=aR (cI P H nx ty (some a) (some v)) k:=rfl
theorem RG (ty:TypeId)(H:T OB)(nx:Nat)(k:Value->T OB->Nat->Q):pM ty H nx k=aR (cD P H nx ty) k:=rfl
theorem Vu (t:TypeId)(n:Nat)(l:List (Nat×Value))(H:T OB)(nx:Nat)(k:Value->T OB->Nat->Q):pG t n l H nx k=aR (aJ P H nx t n (some l)) k:=rfl
theorem Vv (t:List TypeId)(l:List Value)(H:T OB)(nx:Nat)(k:Value->T OB->Nat->Q):pP t l H nx k=aR (cO P H nx t (some l)) k:=rfl
theorem ab:type_of% (And.intro @cT (And.intro @cF (And.intro @eS (And.intro @lN (And.intro @Vk (And.intro @RB (And.intro @Gt (And.intro @RC (And.intro @Vl (And.intro @Vm (And.intro @Vn (And.intro @Vo (And.intro @RD (And.intro @Vp (And.intro @Vq (And.intro @MV (And.intro @Vr (And.intro @RE (And.intro @Vs (And.intro @Vt (And.intro @RF (And.intro @RG (And.intro @Vu (And.intro @Vv (And.intro @qF (And.intro @l9 (And.intro @oL (And.intro @qG (And.intro @sV (And.intro @oM (And.intro @ax (And.intro @C_ (And.intro @Da (And.intro @zZ (And.intro @Db (And.intro @Iw (And.intro @z6 (And.intro @uX (And.intro @uY (And.intro @uZ (And.intro @u3 (And.intro @u4 (And.intro @u5 (And.intro @u6 (And.intro @u7 (And.intro @u9 (And.intro @sW (And.intro @sX (And.intro @wh (And.intro @sY (And.intro @rh (And.intro @si (And.intro @Bool.not_true (And.intro @Bool.not_false (And.intro @Bool.not_not (And.intro @z8 (And.intro @u_ (And.intro @sZ (And.intro @Iy (And.intro @bf (And.intro @Int.cast_ofNat_Int (And.intro @decide_true (And.intro @decide_false (And.intro @Bool.and_self (And.intro @Dc (And.intro @Dd (And.intro @De (And.intro @Df (And.intro @Dg (And.intro @Dh (And.intro @Di (And.intro @Dj (And.intro @Dk (And.intro @Dl (And.intro @Dm (And.intro @Dn (And.intro @Dp (And.intro @Dq (And.intro @Dr (And.intro @Ds (And.intro @Dt (And.intro @Du (And.intro @Dv (And.intro @Dw (And.intro @Dx (And.intro @Dy (And.intro @Dz (And.intro @DA (And.intro @DB (And.intro @DC (And.intro @DD (And.intro @DF (And.intro @DG (And.intro @DH (And.intro @DI (And.intro @DJ (And.intro @DK (And.intro @DL (And.intro @DM (And.intro @DN (And.intro @DO (And.intro @z9 (And.intro @z_ (And.intro @rz (And.intro @jE (And.intro @mM (And.intro @oO (And.intro @wi (And.intro @wj (And.intro @wk (And.intro @wm (And.intro @wo (And.intro @wq (And.intro @DP (And.intro @DQ (And.intro @DR (And.intro @DS (And.intro @DT (And.intro @wu (And.intro @wv (And.intro @wx (And.intro @oP (And.intro @wy (And.intro @wz (And.intro @wA (And.intro @wB (And.intro @wC (And.intro @DU (And.intro @DW (And.intro @DX (And.intro @DY (And.intro @DZ (And.intro @D0 (And.intro @D1 (And.intro @D2 (And.intro @D3 (And.intro @D4 (And.intro @D5 (And.intro @D6 (And.intro @oQ (And.intro @gb (And.intro @Aa (And.intro @Ab (And.intro @D7 (And.intro @D8 (And.intro @D9 (And.intro @D_ (And.intro @Vd (And.intro @Ve (And.intro @Vf (And.intro @Vg (And.intro @Po (And.intro @Pp (And.intro @Pq (And.intro @Pr (And.intro @IA (And.intro @Pt (And.intro @IB (And.intro @Pu (And.intro @Pv (And.intro @Pw (And.intro @Px (And.intro @Py (And.intro @Pz (And.intro @IC (And.intro @PA (And.intro @PB (And.intro @PC (And.intro @ID (And.intro @IE (And.intro @PD (And.intro @IH (And.intro @Ed (And.intro @Ee (And.intro @II (And.intro @Ef (And.intro @Eg (And.intro @IJ (And.intro @Eh (And.intro @Ei (And.intro @IK (And.intro @Ej (And.intro @Ek (And.intro @wD (And.intro @El (And.intro @wE (And.intro @IL (And.intro @Em (And.intro @En (And.intro @IM (And.intro @Eo (And.intro @Ep (And.intro @IN (And.intro @Er (And.intro @Es (And.intro @IP (And.intro @wF @wG))))))))))))))))))))))))))))))))))))))))))))))))))))))))))))))))))))))))))))))))))))))))))))))))))))))))))))))))))))))))))))))))))))))))))))))))))))))))))))))))))))))))))))))))))))))))))))))))))))):=And.intro @cT (And.intro @cF (And.intro @eS (And.intro @lN (And.intro @Vk (And.intro @RB (And.intro @Gt (And.intro @RC (And.intro @Vl (And.intro @Vm (And.intro @Vn (And.intro @Vo (And.intro @RD (And.intro @Vp (And.intro @Vq (And.intro @MV (And.intro @Vr (And.intro @RE (And.intro @Vs (And.intro @Vt (And.intro @RF (And.intro @RG (And.intro @Vu (And.intro @Vv (And.intro @qF (And.intro @l9 (And.intro @oL (And.intro @qG (And.intro @sV (And.intro @oM (And.intro @ax (And.intro @C_ (And.intro @Da (And.intro @zZ (And.intro @Db (And.intro @Iw (And.intro @z6 (And.intro @uX (And.intro @uY (And.intro @uZ (And.intro @u3 (And.intro @u4 (And.intro @u5 (And.intro @u6 (And.intro @u7 (And.intro @u9 (And.intro @sW (And.intro @sX (And.intro @wh (And.intro @sY (And.intro @rh (And.intro @si (And.intro @Bool.not_true (And.intro @Bool.not_false (And.intro @Bool.not_not (And.intro @z8 (And.intro @u_ (And.intro @sZ (And.intro @Iy (And.intro @bf (And.intro @Int.cast_ofNat_Int (And.intro @decide_true (And.intro @decide_false (And.intro @Bool.and_self (And.intro @Dc (And.intro @Dd (And.intro @De (And.intro @Df (And.intro @Dg (And.intro @Dh (And.intro @Di (And.intro @Dj (And.intro @Dk (And.intro @Dl (And.intro @Dm (And.intro @Dn (And.intro @Dp (And.intro @Dq (And.intro @Dr (And.intro @Ds (And.intro @Dt (And.intro @Du (And.intro @Dv (And.intro @Dw (And.intro @Dx (And.intro @Dy (And.intro @Dz (And.intro @DA (And.intro @DB (And.intro @DC (And.intro @DD (And.intro @DF (And.intro @DG (And.intro @DH (And.intro @DI (And.intro @DJ (And.intro @DK (And.intro @DL (And.intro @DM (And.intro @DN (And.intro @DO (And.intro @z9 (And.intro @z_ (And.intro @rz (And.intro @jE (And.intro @mM (And.intro @oO (And.intro @wi (And.intro @wj (And.intro @wk (And.intro @wm (And.intro @wo (And.intro @wq (And.intro @DP (And.intro @DQ (And.intro @DR (And.intro @DS (And.intro @DT (And.intro @wu (And.intro @wv (And.intro @wx (And.intro @oP (And.intro @wy (And.intro @wz (And.intro @wA (And.intro @wB (And.intro @wC (And.intro @DU (And.intro @DW (And.intro @DX (And.intro @DY (And.intro @DZ (And.intro @D0 (And.intro @D1 (And.intro @D2 (And.intro @D3 (And.intro @D4 (And.intro @D5 (And.intro @D6 (And.intro @oQ (And.intro @gb (And.intro @Aa (And.intro @Ab (And.intro @D7 (And.intro @D8 (And.intro @D9 (And.intro @D_ (And.intro @Vd (And.intro @Ve (And.intro @Vf (And.intro @Vg (And.intro @Po (And.intro @Pp (And.intro @Pq (And.intro @Pr (And.intro @IA (And.intro @Pt (And.intro @IB (And.intro @Pu (And.intro @Pv (And.intro @Pw (And.intro @Px (And.intro @Py (And.intro @Pz (And.intro @IC (And.intro @PA (And.intro @PB (And.intro @PC (And.intro @ID (And.intro @IE (And.intro @PD (And.intro @IH (And.intro @Ed (And.intro @Ee (And.intro @II (And.intro @Ef (And.intro @Eg (And.intro @IJ (And.intro @Eh (And.intro @Ei (And.intro @IK (And.intro @Ej (And.intro @Ek (And.intro @wD (And.intro @El (And.intro @wE (And.intro @IL (And.intro @Em (And.intro @En (And.intro @IM (And.intro @Eo (And.intro @Ep (And.intro @IN (And.intro @Er (And.intro @Es (And.intro @IP (And.intro @wF @wG))))))))))))))))))))))))))))))))))))))))))))))))))))))))))))))))))))))))))))))))))))))))))))))))))))))))))))))))))))))))))))))))))))))))))))))))))))))))))))))))))))))))))))))))))))))))))))))))))))
end
end Go.Proofs.YthjhonhhbddhkaaDoor
