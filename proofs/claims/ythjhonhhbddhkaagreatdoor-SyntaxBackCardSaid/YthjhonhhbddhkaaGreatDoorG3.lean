/- Texts of this claim, side by side. -/
import Derived.Test.YthjhonhhbddhkaaGreatDoorG2
import Derived.Laws.Strings
import Derived.Test.YthjhonhhbddhkaaGreatDoorProg
import Derived.KernelRfl
open List renaming getElem?_eq_some_iff->ar,getElem?_eq_getElem->au,mem_cons_of_mem->aH,getElem?_append_left->bc,append_assoc->bn,getElem?_eq_none->bt,getElem?_drop->bL,getElem?_take->bR,getElem?_append_right->bZ,drop_eq_getElem_cons->dA,ext_getElem?->eE,mem_cons_self->fC,take_succ_cons->gW,getElem_mem->hU,rec->jL
open And renaming intro->ab
open Bool renaming true_and->ai,not_true->cM,eq_iff_iff->dk,not_false->fk,and_self->gO
open Nat renaming ble_eq_true_of_le->av,le_refl->ax,beq->ay,ble->bj,zero_add->bN,blt->bY,beq_refl->cm,succ->cS,lt_of_lt_of_le->eh,le_trans->ga,add->iq,sub_zero->iu
open Array renaming replicate->iG
open Option renaming bind_some->ba,rec->gm
namespace Go.Ev
open Go.RowKit (Below)
noncomputable section
set_option maxRecDepth 100000
set_option linter.unusedVariables false
set_option linter.unusedSimpArgs false
section
variable {P:Program}{W w w' w1:World}{f fn:FuncId}{cs cs0:List Frame}{r r1:Rt}{fr fr' fr1:Frame}{φ φ' φ1:fq}{H H' H1:T OB}{nx nx' aI nt lo hi:Nat}{tm:T Value}{tmps:Array Value}{ops:Array Oper}
 {todo k:List Item} {c:Cg} {ds:List Deferred} {kd:Bool} {O:bV->Option Rt} {pl:ny}
theorem gb.adB {b:Bool}{fr1:Frame}(s:fr.mode= .run)(l:step P (lone fr (iz b cs0) w)= .next (lone fr1 (iz b cs0) w))(h:gb P W kd fn lo cs0 b φ H r fr w):gb P W kd fn lo cs0 b φ H r fr1 w:=by
 obtain⟨φ',w',a,⟨n,hn⟩,q,t,k,p,i,j,c⟩:=h;refine⟨φ',w',a,?_,q,t,k,p,i,j,c⟩;cases n with
 | zero=>
   exfalso;have hn:Stepped.next (lone fr (iz b cs0) w)= .next (lone a (iz r.rc cs0) w'):=hn
   have e:fr.mode=a.mode:=by
    injection hn with hn
    simp only[lone]at hn
    simp_all
   rw[s]at e;cases g:r.o with
   | ret v=>rw[g]at c;obtain⟨m,_,d⟩:=c;rw[d.1]at e;cases e
   | j_ v=>rw[g]at c;obtain⟨m,_,d⟩:=c;rw[d.1]at e;cases e
 | succ n=>
   refine⟨n,?_⟩;simp only[runN,l]at hn;exact hn
theorem tR (t:Nat)(v:Value):∀l:List Nat,(z6 tm l).get (bits t)=some v->tm.get (bits t)=some v
 | [],h=>by rw[show z6 tm []= .leaf from rfl,mQ]at h;cases h
 | s::l,h=>by
   have h:(aw (tm.get (bits s)) (λv=>fQ (bits s) (z6 tm l) (some v) id) (z6 tm l)).get (bits t)=some v:=h;cases b:tm.get (bits s)with
   | none=>rw[b]at h;exact tR t v l h
   | some u=>
     have a:(set (z6 tm l) (bits s) (some u)).get (bits t)=some v:=by
      rw[b,aZ,bQ]at h;exact h
     clear h;rw[get_at]at a;split at a
     . rename_i q;subst q;exact b.trans a
     . exact tR t v l a
theorem LO {a:Nat}{t:Nat}{v:Value}(h:(D2 pl fn a tm).get (bits t)=some v):tm.get (bits t)=some v:=by
 unfold D2 at h;split at h
 . exact h
 . cases b:MW fn a _ with
   | none=>rw[b]at h;exact h
   | some l=>rw[b]at h;exact tR t v l h
theorem ss.mask {a:Nat}(h:ss P W c (D2 pl fn a tm) todo H nx r):ss P W c tm todo H nx r:=λφ w lo tmps ds cs0 x b=>
 h φ w lo tmps ds cs0 x λt v d=>b t v (LO d)
theorem su (b:oe P W O)(a:List Item):Ij P W O (D3 pl a) a:=λc tm H nx r h=>
 ss.mask (show ss P W c (D2 pl c.fn (XG a) tm) a H nx r from b _ _ (Np h))
theorem Il (a:List Item):Ij P W O Ga a:=λc tm H nx r h=>(kV h).elim
def VQ (P:Program)(W:World)(O:bV->Option Rt)(E:List (Nat×Kt))(k:List Item):Prop:=∀id,xy id E=Ga\/∃a,exitTo id k=some a/\Ij P W O (xy id E) a
theorem VQ.skip {E:List (Nat×Kt)}{d:Item}(h:VQ P W O E k)(c:∀id,exitTo id (d::k)=exitTo id k):VQ P W O E (d::k):=λj=>(h j).imp (λq=>q) λ⟨e,a,b⟩=>⟨e,(c j).trans a,b⟩
theorem VQ.block {E:List (Nat×Kt)}{K:Kt}{id:Nat}(h:VQ P W O E k)(c:Ij P W O K k):VQ P W O ((id,K)::E) (.inBlock id::k):=λj=>by
 have e:xy j ((id,K)::E)=bif ay id j then K else xy j E:=rfl;have d:exitTo j (.inBlock id::k)=if id == j then some k else exitTo j k:=rfl;rw[e,d];cases b:ay id j with
 | true=>
   have:=beq_eq b;subst this;exact .inr ⟨k,by simp,c⟩
 | false=>
   have a:(id == j)=false:=by
    cases g:id == j with
    | false=>rfl
    | true=>have:id=j:=by simpa using g
            subst this;rw[cm]at b;cases b
   rw[a];exact h j
theorem Sm (m:oe P W O){K:Kt}(j:Ij P W O K k)(id:Nat)(ops:Array Oper)(d:Bool):Ij P W O (XE P pl ops d K) (.code (.region id ops d)::k):=λc tm H nx r h=>by
 unfold XE at h;rcases iM h with⟨hd,e⟩ | ⟨hd,e⟩
 . rcases iM e with⟨o,g⟩ | ⟨_,g⟩
   . obtain⟨p,hp,s⟩:=dn g;subst hd;intro φ w lo tmps ds cs0 x i;have l:=step_region_draw (P:=P) (b:=gv (eV c ds) #[] []) (a:=⟨tmps,ds⟩) (k:=k) (cs:=iz c.rc cs0) (w:=w) (ops:=ops) (id:=id);rw[o]at l;have n:Fx P W lo cs0 c φ H nx tmps ds w.drew:=⟨x.hH.drew,x.ej,x.oJ,x.oI,x.Bq,x.si⟩;obtain⟨e,g⟩:=jG.start (P:=P) (φ:=φ) (H:=H) hp (w.tape w.drawn (.order (gv (eV c ds) #[] []).fn id)) i lo nx;exact gb.steps (.one l) φ.le_refl (λ_ _ q=>⟨q,rfl⟩) (yh m j p tm H nx φ tmps _ _ _ _ _ s n e g)
   . exact(kV g).elim
 . subst hd;exact(oQ m j _ c tm H nx r e).step1 λds tmps cs w=> .one (step_region (b:=gv (eV c ds) #[] []) (a:=⟨tmps,ds⟩))
theorem yi (p:oe P W O)(s:Code):∀(k:List Item) (K:Kt) (E:List (Nat×Kt)),Ij P W O K k->VQ P W O E k->Ij P W O (z7 P pl s k K E) (.code s::k):=by
 induction s with
 | skip=>exact λk K E d e c tm H nx r h=>(d c tm H nx r h).step1 λds tmps cs w=> .one (step_skip (b:=gv (eV c ds) #[] []) (a:=⟨tmps,ds⟩))
 | label l=>exact λk K E d e c tm H nx r h=>(d c tm H nx r h).step1 λds tmps cs w=> .one (step_label (b:=gv (eV c ds) #[] []) (a:=⟨tmps,ds⟩))
 | ret=>exact λk K E d e=>tQ p (.inr ⟨k,rfl⟩)
 | region id ops n=>exact λk K E d e=>Sm p d id ops n
 | seq a b j m=>
   intro k K E d e c tm H nx r h;refine ss.step1 (λds tmps cs w=> .one (step_seq (b:=gv (eV c ds) #[] []) (a:=⟨tmps,ds⟩))) (j (.code b::k) _ E ?_ (e.skip λ_=>rfl) c tm H nx r h);cases hq:aaR pl a b with
   | true=>exact su p _
   | false=>exact m k K E d e
 | cond q a b j m=>
   intro k K E d e c tm H nx r h φ w lo tmps ds cs0 x i;have h:(MX (cZ P tm q) (z7 P pl a k K E c tm H nx) (z7 P pl b k K E c tm H nx)).run O=some r:=h;unfold MX at h;split at h
   . rename_i t hx;have D:Act.eval ⟨tmps,ds⟩ q= .bool t:=by
      rw[Em];exact((Bo x.hH.gl i (l:=[q]) Nt) q (by simp) _ hx).aR rfl
     have B:=step_cond (P:=P) (b:=gv (eV c ds) #[] []) (a:=⟨tmps,ds⟩) (k:=k) (cs:=iz c.rc cs0) (w:=w) (x:=a) (y:=b) D;rcases iM h with⟨rfl,h⟩ | ⟨rfl,h⟩
     . exact(j k K E d e c tm H nx r h φ w lo tmps ds cs0 x i).step1 (.one B)
     . exact(m k K E d e c tm H nx r h φ w lo tmps ds cs0 x i).step1 (.one B)
   . exact(kV h).elim
 | block id g o=>
   intro k K E d e c tm H nx r h;refine ss.step1 (λds tmps cs w=> .one (step_block (b:=gv (eV c ds) #[] []) (a:=⟨tmps,ds⟩))) (o (.inBlock id::k) K ((id,K)::E) (λc tm H nx r h=> ?_) (e.block d) c tm H nx r h);exact(d c tm H nx r h).step1 λds tmps cs w=> .one (step_inBlock (b:=gv (eV c ds) #[] []) (a:=⟨tmps,ds⟩))
 | loop g o=>
   intro k K E d e c tm H nx r h φ w lo tmps ds cs0 x i;have C:=su (pl:=pl) p (.inLoop g::k) c tm H nx r h φ w lo tmps ds cs0 x i;exact(C.adB rfl (step_inLoop (b:=gv (eV c ds) #[] []) (a:=⟨tmps,ds⟩))).step1 (.one (step_loop (b:=gv (eV c ds) #[] []) (a:=⟨tmps,ds⟩)))
 | scope g o=>
   intro k K E d e c tm H nx r h;refine ss.step1 (λds tmps cs w=> .one (step_scope (b:=gv (eV c ds) #[] []) (a:=⟨tmps,ds⟩))) (o (.inScope g::k) K E (λc tm H nx r h=> ?_) (e.skip λ_=>rfl) c tm H nx r h);exact(d c tm H nx r h).step1 λds tmps cs w=> .one (step_inScope (b:=gv (eV c ds) #[] []) (a:=⟨tmps,ds⟩))
 | exit id=>
   intro k K E d e c tm H nx r h;have h:(xy id E c tm H nx).run O=some r:=h;rcases e id with q | ⟨k',z,A⟩
   . rw[q]at h;exact(kV h).elim
   . exact(A c tm H nx r h).step1 λds tmps cs w=> .one (step_exit (b:=gv (eV c ds) #[] []) (a:=⟨tmps,ds⟩) z)
 | _=>exact λk K E d e=>Il _
theorem GD (i:oe P W O):∀d:List Item,Ij P W O (evI P pl d).1 d/\VQ P W O (evI P pl d).2 d
 | []=>⟨tQ i (.inl rfl),λid=> .inl rfl⟩
 | it::k=>by
   obtain⟨g,e⟩:=GD i k;cases it with
   | code j=>exact⟨yi i j k _ _ g e,e.skip λ_=>rfl⟩
   | inBlock id=>exact⟨λc tm H nx r h=>(g c tm H nx r h).step1 λds tmps cs w=> .one (step_inBlock (b:=gv (eV c ds) #[] []) (a:=⟨tmps,ds⟩)),e.block g⟩
   | inScope b=>exact⟨λc tm H nx r h=>(g c tm H nx r h).step1 λds tmps cs w=> .one (step_inScope (b:=gv (eV c ds) #[] []) (a:=⟨tmps,ds⟩)),e.skip λ_=>rfl⟩
   | inLoop body=>exact⟨su i _,e.skip λ_=>rfl⟩
   | _=>exact⟨Il _,λid=> .inl rfl⟩
theorem Sn (g:oe P W O)(d:List Item):Ij P W O (XH P pl d) d:=by
 unfold XH;split
 . rename_i e k;intro c tm H nx r h;exact ss.step1 (λds tmps cs w=> .one (step_inLoop (b:=gv (eV c ds) #[] []) (a:=⟨tmps,ds⟩))) (yi g e _ _ _ (su g _) ((GD g k).2.skip λ_=>rfl) c tm H nx r h)
 . exact(GD g d).1
theorem XY (k:oe P W O):∀q r,(aX P pl q).run O=some r->Ns P W q r
 | .at c tm todo H nx,r,h=>Sn k todo c tm H nx r h
 | .call f args kd rp H nx,r,h=>λφ w a cs0 hH ej l si=>by
   obtain⟨b,m,h⟩:=dn (show(aw P.funcs[f]? (λfn=>aw fn.body (λj=>evF P pl f kd rp fn j args H nx) .bad) .bad).run O=some r from h);obtain⟨j,s,h⟩:=dn h;unfold evF at h;obtain⟨hn,h⟩:=py h;have hn:=fI hn;obtain⟨φ1,us,H1,aI,h,i,g⟩:=rA b.params _ _ _ φ H nx hH ej l h;rw[fW]at h;have hlen:=l.len;have hlen1:=i.len;have e:Frame.enter P f a.toArray (kindOf kd)=gv (eV ⟨f,b.ntmps,kd,[],rp,false⟩ []) (a.toArray++iG (b.ntmps-a.toArray.size) undef) [.code j]:=by
    simp[Frame.enter,m,s,gv,eV]
   rw[e];have hx:Fx P W nx cs0 ⟨f,b.ntmps,kd,[],rp,false⟩ φ1 H1 aI (a.toArray++iG (b.ntmps-a.toArray.size) undef) [] w:=⟨g.2.1,g.2.2.1,g.2.2.2.2,by
    show(a.toArray++iG (b.ntmps-a.toArray.size) undef).size=b.ntmps;simp only[Array.size_append,List.size_toArray,Array.size_replicate];omega,.nil,si.mono g.1⟩
   refine g.fin (yi k j [] _ [] (tQ k (.inl rfl)) (λid=> .inl rfl) _ _ _ _ r h φ1 w nx _ [] cs0 hx ?_);intro t v d;rw[gz]at d;split at d
   . rename_i ht;rw[iu]at d;obtain⟨o,n,p⟩:=i.get d;refine .inr ⟨o,?_,p⟩;have:t<a.toArray.size:=by simp;omega
     rw[Array.getElem?_append_left this];simpa using n
   . rw[mQ]at d;cases d
def EA (P:Program)(W:World)(X:Ext):Prop:=∀f a v,X f a=some v->(∀x∈a,flat x=true)/\flat v=true/\
 ∀w,Below W.heap.size W w->Calls P f a.toArray w λe w'=>e= .returned v/\Below w.heap.size w w'
theorem LR.aR {l l':List Value}(h:LR φ l l')(c:∀x∈l,flat x=true):l'=l:=by
 refine eE λi=> ?_
 by_cases hi:i<l.length
 . have a:=au hi;have b:=au (h.len ▸ hi:i<l'.length);rw[a,b,(h.at_ i _ _ a b).aR (c _ (hU hi))]
 . rw[bt (by have:=h.len;omega),bt (by omega)]
theorem XZ {X:Ext}(p:EA P W X){f:FuncId}{c:List Value}{v:Value}(h:X f c=some v)(rp:Option Value)(H:T OB)(nx:Nat):Ns P W (.call f c false rp H nx) ⟨.ret v,false,H,nx⟩:=λφ w args' cs0 hH ej o _=>by
 obtain⟨j,s,t⟩:=p f c v h;have:=o.aR j;subst this;obtain⟨e,w',fr,⟨m,x⟩,l,i,g⟩:=t w hH.below cs0;subst m;obtain⟨a,b,n,d⟩:=g;exact⟨φ,w',fr,l,φ.le_refl,hH.grown x,ej,λk _ q=>⟨q,rfl⟩,n,i,v,.flat v s,a,b,d⟩
theorem EB {X:Ext}{q:bV}{k:Option Rt}(h:tD X q k=some r):k=some r\/∃f a rp H nx v,q= .call f a false rp H nx/\X f a=some v/\r=⟨.ret v,false,H,nx⟩:=by
 cases q with
 | «at» c tm todo H nx=>exact .inl h
 | call f a kd rp H nx=>
   cases kd with
   | true=>exact .inl h
   | false=>
     have h:@gm Value (λ_=>Option Rt) k (λv=>some ⟨.ret v,false,H,nx⟩) (X f a)=some r:=h;cases hx:X f a with
     | none=>rw[hx]at h;exact .inl h
     | some v=>rw[hx]at h;cases h;exact .inr ⟨f,a,rp,H,nx,v,rfl,hx,rfl⟩
theorem sw (pl:ny)(X:Ext)(n:Nat)(q:bV):FD P pl X (n+1) q=tD X q ((aX P pl q).run (FD P pl X n)):=rfl
theorem VS {X:Ext}(b:EA P W X):∀n,oe P W (FD P pl X n)
 | 0,q,r,h=>by cases h
 | n+1,q,r,h=>by
   rw[sw]at h;rcases EB h with h | ⟨f,args,rp,H,nx,v,rfl,hx,rfl⟩
   . exact XY (VS b n) q r h
   . exact XZ b hx rp H nx
theorem Q.yj {O b:bV->Option Rt}(d:∀q r,O q=some r->b q=some r):∀(q:Q) (r:Rt),q.run O=some r->q.run b=some r:=by
 intro q
 induction q with
 | ret a=>exact λr h=>h
 | bad=>exact λr h=>h
 | jump c=>exact λr h=>d c r h
 | ask c k e=>
   intro r h;obtain⟨a,i,g⟩:=sq h;show aw (b c) (λa=>(k a).run b) none=some r;rw[d c a i];exact e a r g
theorem An {X:Ext}{q:bV}{k b:Option Rt}(d:∀r,k=some r->b=some r)(h:tD X q k=some r):tD X q b=some r:=by
 cases q with
 | «at» c tm todo H nx=>exact d r h
 | call f a kd rp H nx=>
   cases kd with
   | true=>exact d r h
   | false=>
     have h:@gm Value (λ_=>Option Rt) k (λv=>some ⟨.ret v,false,H,nx⟩) (X f a)=some r:=h;show @gm Value (λ_=>Option Rt) b (λv=>some ⟨.ret v,false,H,nx⟩) (X f a)=some r;cases hx:X f a with
     | none=>rw[hx]at h;exact d r h
     | some v=>rw[hx]at h;exact h
theorem EC {X:Ext}:∀(n:Nat) (q:bV) (r:Rt),FD P pl X n q=some r->FD P pl X (n+1) q=some r
 | 0,q,r,h=>by cases h
 | n+1,q,r,h=>by
   rw[sw]at h ⊢;exact An (λr h=>Q.yj (EC n) _ r h) h
theorem vD {X:Ext}{n m:Nat}(hn:n<=m){q:bV}{r:Rt}(h:FD P pl X n q=some r):FD P pl X m q=some r:=by
 induction hn with
 | refl=>exact h
 | step _ a=>exact EC _ q r a
open Classical in
def F (P:Program)(pl:ny)(X:Ext)(q:bV):Option Rt:=if h:∃r n,FD P pl X n q=some r then some h.choose else none
theorem uQ {X:Ext}{q:bV}:F P pl X q=some r↔∃n,FD P pl X n q=some r:=by
 unfold F;constructor
 . intro h;split at h
   . rename_i hx;cases h;exact hx.choose_spec
   . cases h
 . rintro⟨n,hn⟩;have hx:∃r n,FD P pl X n q=some r:=⟨r,n,hn⟩;rw[dif_pos hx];obtain⟨m,c⟩:=hx.choose_spec;have b:=vD (Nat.le_max_left n m) hn;have a:=vD (Nat.le_max_right n m) c;rw[b]at a;cases a;rfl
theorem Q.So {X:Ext}:∀(q:Q) (r:Rt),q.run (F P pl X)=some r->∃n,q.run (FD P pl X n)=some r:=by
 intro q
 induction q with
 | ret a=>exact λr h=>⟨0,h⟩
 | bad=>exact λr h=>(kV h).elim
 | jump c=>exact λr h=>uQ.1 h
 | ask c k b=>
   intro r h;obtain⟨a,e,d⟩:=sq h;obtain⟨n,hn⟩:=uQ.1 e;obtain⟨m,g⟩:=b a r d;refine⟨max n m,?_⟩;show aw (FD P pl X (max n m) c) (λa=>(k a).run (FD P pl X (max n m))) none=some r;rw[vD (Nat.le_max_left n m) hn];exact Q.yj (λq r h=>vD (Nat.le_max_right n m) h) _ r g
theorem tS {X:Ext}(q:bV):F P pl X q=tD X q ((aX P pl q).run (F P pl X)):=by
 have k:∀r,F P pl X q=some r->tD X q ((aX P pl q).run (F P pl X))=some r:=λr h=>by
  obtain⟨n,hn⟩:=uQ.1 h;cases n with
  | zero=>cases hn
  | succ n=>
    rw[sw]at hn;exact An (λr h=>Q.yj (λq r h=>uQ.2 ⟨n,h⟩) _ r h) hn
 have d:∀r,tD X q ((aX P pl q).run (F P pl X))=some r->F P pl X q=some r:=λr h=>by
  rcases EB h with h | ⟨f,a,rp,H,nx,v,rfl,hx,rfl⟩
  . obtain⟨n,hn⟩:=Q.So _ r h;cases b:tD X q ((aX P pl q).run (FD P pl X n))with
    | none=>
      exfalso;rw[hn]at b;cases q with
      | «at» c tm todo H nx=>cases b
      | call f a kd rp H nx=>
        cases kd with
        | true=>cases b
        | false=>
          have b:@gm Value (λ_=>Option Rt) (some r) (λv=>some ⟨.ret v,false,H,nx⟩) (X f a)=none:=b;cases hx:X f a<;>rw[hx]at b<;>cases b
    | some i=>
      have g:F P pl X q=some i:=uQ.2 ⟨n+1,by rw[sw];exact b⟩;have e:=k i g;have j:tD X q ((aX P pl q).run (F P pl X))=some r:=by assumption
      rw[e]at j;cases j;exact g
  . refine uQ.2 ⟨1,?_⟩;rw[sw];show @gm Value (λ_=>Option Rt) _ (λv=>some ⟨.ret v,false,H,nx⟩) (X f a)=_;rw[hx]
 cases h:F P pl X q with
 | some r=>exact(k r h).symm
 | none=>
   cases e:tD X q ((aX P pl q).run (F P pl X))with
   | none=>rfl
   | some r=>rw[d r e]at h;cases h
theorem adC {X:Ext}{n:Nat}{q:bV}(h:FD P pl X n q=some r):F P pl X q=some r:=uQ.2 ⟨n,h⟩
theorem yk {X:Ext}(x:EA P W X){f:FuncId}{g c:List Value}{v:Value}{H':T OB}{nx':Nat}(hH:HR P W φ (hp H) W)(ej:φ.length=nx)(t:LR φ g c)(p:flat v=true)
 (h:F P pl X (.call f g false none H nx)=some ⟨.ret v,false,H',nx'⟩):Calls P f c.toArray W λe w'=>e= .returned v/\Below W.heap.size W w':=by
 intro cs;obtain⟨n,hn⟩:=uQ.1 h;obtain⟨φ1,w1,l,o,hle,m,hl1,hk1,j,i,s,k,y⟩:=VS x n _ _ hn φ W c cs hH ej t (λq=>by cases q);have:=k.aR p;subst this;obtain⟨a,b,d⟩:=y;exact⟨.returned s,w1,l,⟨rfl,m.below⟩,o,i,a,b,j,d⟩
end
end
end Go.Ev
namespace Go.Ev
noncomputable section
set_option maxRecDepth 100000
set_option linter.unusedVariables false
set_option linter.unusedSimpArgs false
section
def LP (l:List (Nat×Value)):T Value:=@jL (Nat×Value) (λ_=>T Value) .leaf (λp _ a=>fQ (bits p.1) a (some p.2) id) l
def X1 (e:Code):List Item->List (List Item):=
 @Code.rec (λ_=>List Item->List (List Item)) (λ_=>[]) (λ_ _ _ _=>[]) (λ_ b a c k=>a (.code b::k)++((.code b::k)::c k)) (λ_ _ _ a c k=>a k++c k) (λid _ d k=>d (.inBlock id::k))
  (λb d k=>(.inLoop b::k)::d (.inLoop b::k)) (λ_ _ _ _ _ _ _=>[]) (λ_ _=>[]) (λb d k=>d (.inScope b::k)) (λ_ _=>[]) (λ_ _=>[]) (λ_=>[]) (λ_ _=>[]) e
def aaY (a:Nat)(l:List (List Item)):List Item:=@jL (List Item) (λ_=>List Item) [] (λt _ b=>bif ay (XG t) a then t else b) l
def Nw (P:Program)(f:FuncId)(a:Nat):List Item:=match P.funcs[f]? with
 | some fn=>(match fn.body with
   | some b=>aaY a (X1 b [])
   | none=>[])
 | none=>[]
def sx (P:Program)(H:T OB)(nx:Nat)(t:TypeId)(a:Option Value)(v:Value)(k:T OB->Nat->Q):Q:=
 R4 a λb off=>rf (H.get (bits b)) λn _ _=>aw (bT P t) (λs=>
  bif ay off 0&&(ay n s&&(ay v.cells.toList.length s&&v.cells.toList.all aC))then fQ (bits b) H (some .dead) λH=>eF (cS nx) λn=>k H n else .bad) .bad
variable {P:Program}{pl:ny}{X:Ext}{H H0 H1:T OB}{nx nx0 aI:Nat}{v u:Value}{R:Go.Ev.Out->T OB->Nat->Prop}
def Ag (nx0:Nat)(H0:T OB)(nx:Nat)(H:T OB):Prop:=nx0<=nx/\∀k,k<nx0->hp H k=hp H0 k
theorem Ag.refl (nx:Nat)(H:T OB):Ag nx H nx H:=⟨ax _,λ_ _=>rfl⟩
theorem Ag.trans (h:Ag nx0 H0 nx H)(a:Ag nx H aI H1):Ag nx0 H0 aI H1:=⟨ga h.1 a.1,λk b=>(a.2 k (eh b h.1)).trans (h.2 k b)⟩
theorem Ag.set (h:Ag nx0 H0 nx H){b:Nat}(hb:nx0<=b)(x:Option OB):Ag nx0 H0 nx (Ev.set H (bits b) x):=⟨h.1,λk a=>by rw[dc,bP _ (by omega)];exact h.2 k a⟩
theorem Ag.succ (h:Ag nx0 H0 nx H):Ag nx0 H0 (nx+1) H:=⟨Nat.le_succ_of_le h.1,h.2⟩
def bA (P:Program)(pl:ny)(X:Ext)(q:Q)(nx0:Nat)(H0:T OB)(R:Go.Ev.Out->T OB->Nat->Prop):Prop:=∃o H' nx',Ag nx0 H0 nx' H'/\R o H' nx'/\q.run (F P pl X)=some ⟨o,false,H',nx'⟩
abbrev e8 (P:Program)(pl:ny)(X:Ext)(q:Q)(nx0:Nat)(H0:T OB)(R:Value->T OB->Nat->Prop):Prop:=bA P pl X q nx0 H0 λo H nx=>∃v,o= .ret v/\R v H nx
abbrev Wq (P:Program)(pl:ny)(X:Ext)(q:Q)(nx0:Nat)(H0:T OB)(v:Value):Prop:=e8 P pl X q nx0 H0 λu _ _=>u=v
def Pure (P:Program)(pl:ny)(X:Ext)(f:FuncId)(a:List Value)(v:Value):Prop:=∀H nx,∃H' nx',Ag nx H nx' H'/\F P pl X (.call f a false none H nx)=some ⟨.ret v,false,H',nx'⟩
theorem Pure.of {f:FuncId}{a:List Value}(hx:X f a=none)(h:∀H nx,Wq P pl X (aX P pl (.call f a false none H nx)) nx H v):Pure P pl X f a v:=λH nx=>by
 obtain⟨_,H',nx',c,⟨_,rfl,rfl⟩,b⟩:=h H nx;refine⟨H',nx',c,?_⟩;rw[tS];show @gm Value (λ_=>Option Rt) _ (λv=>some ⟨.ret v,false,H,nx⟩) (X f a)=_;rw[hx];exact b
theorem Pure.ext {f:FuncId}{a:List Value}(hx:X f a=some v):Pure P pl X f a v:=λH nx=>⟨H,nx,.refl _ _,by
 rw[tS];show @gm Value (λ_=>Option Rt) _ (λv=>some ⟨.ret v,false,H,nx⟩) (X f a)=_;rw[hx]⟩
theorem Wq.ret (h:Ag nx0 H0 nx H):Wq P pl X (.ret ⟨.ret v,false,H,nx⟩) nx0 H0 v:=⟨.ret v,H,nx,h,⟨v,rfl,rfl⟩,rfl⟩
theorem Wq.rC {o:Go.Ev.Out}(h:Ag nx0 H0 nx H)(a:R o H nx):bA P pl X (.ret ⟨o,false,H,nx⟩) nx0 H0 R:=⟨o,H,nx,h,a,rfl⟩
theorem Wq.mf {R:Value->T OB->Nat->Prop}(h:Ag nx0 H0 nx H)(a:R v H nx):e8 P pl X (.ret ⟨.ret v,false,H,nx⟩) nx0 H0 R:=⟨.ret v,H,nx,h,⟨v,rfl,a⟩,rfl⟩
theorem Wq.jump {q:bV}(c:∀k,tD X q k=k)(h:bA P pl X (aX P pl q) nx0 H0 R):bA P pl X (.jump q) nx0 H0 R:=by
 obtain⟨v,H',nx',b,d,a⟩:=h;refine⟨v,H',nx',b,d,?_⟩;show F P pl X q=_;rw[tS,c];exact a
theorem Wq.call {g:FuncId}{a:List Value}{k p:Value->T OB->Nat->Q}(m:Pure P pl X g a u)(h:Ag nx0 H0 nx H)(i:∀H' nx',Ag nx0 H0 nx' H'->bA P pl X (k u H' nx') nx0 H0 R):
 bA P pl X (dm (.call g a false none H nx) k p) nx0 H0 R:=by
 obtain⟨H1,aI,d,l⟩:=m H nx;obtain⟨v,c,b,n,j,e⟩:=i H1 aI (h.trans d);refine⟨v,c,b,n,j,?_⟩;show aw (F P pl X (.call g a false none H nx)) (λr=>(match r.o with | .ret v=>k v r.H r.nx | .j_ v=>p v r.H r.nx:Q).run (F P pl X)) none=_;rw[l];exact e
theorem nH {e:TypeId}{l:List Value}{k:Value->T OB->Nat->Q}(a:dD P e=some l):bU (eN P H nx e) k=k (nY nx) (Ev.set H (bits nx) (some (fR l e))) (nx+1):=by
 unfold eN;rw[a,aZ,iS];rfl
theorem Wq.var {e t:TypeId}{l:List Value}{s:Nat}{x:Value}{k:T OB->Nat->Q}(c:dD P e=some l)(d:bT P t=some s)(j:l.length=s)(hx:x.cells.toList.length=s)(a:x.cells.toList.all aC=true)
 (h:Ag nx0 H0 nx H) (i:∀H' nx',Ag nx0 H0 nx' H'->bA P pl X (k H' nx') nx0 H0 R):bA P pl X (bU (eN P H nx e) λp H nx=>sx P H nx t (some p) x k) nx0 H0 R:=by
 rw[nH c];have m:(Ev.set H (bits nx) (some (fR l e))).get (bits nx)=some (fR l e):=by rw[get_at,if_pos rfl]
 have g:sx P (Ev.set H (bits nx) (some (fR l e))) (nx+1) t (some (nY nx)) x k=k (Ev.set (Ev.set H (bits nx) (some (fR l e))) (bits nx) (some .dead)) (nx+1+1):=by
  show rf ((Ev.set H (bits nx) (some (fR l e))).get (bits nx)) (λn _ _=>aw (bT P t) (λs=>bif ay 0 0&&(ay n s&&(ay x.cells.toList.length s&&x.cells.toList.all aC))then
   fQ (bits nx) (Ev.set H (bits nx) (some (fR l e))) (some .dead) λH=>eF (cS (nx+1)) λn=>k H n else .bad) .bad)=_
  rw[m];show aw (bT P t) (λs=>bif ay 0 0&&(ay l.length s&&(ay x.cells.toList.length s&&x.cells.toList.all aC))then
   fQ (bits nx) (Ev.set H (bits nx) (some (fR l e))) (some .dead) λH=>eF (cS (nx+1)) λn=>k H n else .bad) .bad=_
  rw[d,aZ,j,hx,a,bQ,bW];have b:ay s s=true:=cm s;rw[b];rfl
 rw[g];exact i _ _ ((((h.set h.1 _).succ).set h.1 _).succ)
theorem Wq.eF {k:Nat->Q}(a:bA P pl X (k (nx+1)) nx0 H0 R):bA P pl X (Ev.eF (cS nx) k) nx0 H0 R:=by rw[bW];exact a
@[simp] theorem VT (n:Nat):A4 (n:Int)=true:=rfl
@[simp] theorem Im (k:IntKind) (n:Int):zA (some false) (some 1) (.int k n)=some (.int k n):=rfl
@[simp] theorem Io (s:ByteArray):zA (some false) (some 1) (.string s)=some (.string s):=rfl
@[simp] theorem ED (s:Bool):zA (some false) (some 1) (.bool s)=some (.bool s):=rfl
@[simp] theorem Ip (s:Nat) (es:List Value):zA (some false) (some 1) (bM s es)=some (bM s es):=rfl
@[simp] theorem Nx (u:Value):zA (some false) (some 1) (ah u)=some (ah u):=rfl
@[simp] theorem EE:zA (some false) (some 1) (.pointer none)=some (.pointer none):=rfl
theorem h_ {t:TypeId}{s:Nat}{es:List Value}{i:Nat}{u:Value}(a:tA P t=some s)(hi:es[i]? = some u)(k:IntKind):cq P t (some (bM s es)) (some (.int k (i:Int)))=some (ah u):=by
 show lI (i:Int) (MP P t (some (bM s es))) none=_;rw[iY];show RY (tA P t) s es i=_;unfold RY;rw[a,aZ,cm,hi];rfl
theorem jo {t a:TypeId}(s:Nat)(es:List Value)(h:kb P (some t)=true):e_ P #[t] a (some [bM s es])=some (.int .i64 (es.length:Int)):=by
 show(bif kb P (some t)then some (Value.int .i64 (.ofNat es.length))else none)=_;rw[h];rfl
theorem cB {α β:Type}(s:Sem α)(f:α->Sem β):dW P (s >>= f)=(dW P s).bind λa=>dW P (f a):=by
 show dW P (s.bind f)=_
 induction s with
 | pure a=>rfl
 | program k b=>exact b P
 | mark m k b=>exact b
 | _=>rfl
theorem eW {t:TypeId}{d:TypeDesc}(a:P.underlying t=some d):dW P (underlying t)=some d:=by
 unfold underlying;simp only[cB,program,dW,ba,a];rfl
theorem aV {t a:TypeId}(s:ByteArray)(b:P.underlying t=some .string):e_ P #[t] a (some [.string s])=some (.int .i64 (s.size:Int)):=by
 show nk P .len #[t] a (some [.string s])=_;show(bif true&&true then xi (dW P (builtin .len #[t] a #[] ⟨[.string s]⟩))else none)=_;have e:dW P (builtin .len #[t] a #[] ⟨[.string s]⟩)=some (.value (.int .i64 (s.size:Int))):=by
  simp only[builtin,Builtin.len_];simp[cB,eW b,goInt];rfl
 rw[e];show(xf (.int .i64 (s.size:Int)) λv=>bif flat v then some v else none)=_;rw[nB];rfl
@[simp] theorem uR (k:IntKind) (n:Int):aC (.int k n)=true:=rfl
@[simp] theorem oR (s:ByteArray):aC (.string s)=true:=rfl
@[simp] theorem sy (b:Bool):aC (.bool b)=true:=rfl
@[simp] theorem uS (s:Nat) (es:List Value):aC (bM s es)=true:=rfl
@[simp] theorem yl (u:Value):aC (ah u)=true:=rfl
@[simp] theorem sA:aC (.pointer none)=true:=rfl
theorem gF {w:Value}(h:flat w=true):fV P (pure w)=some w:=by
 show(xf w λv=>bif flat v then some v else none)=_;rw[nB,h];rfl
theorem Ny (c:BinOp)(t:TypeId)(k:IntKind)(a b:Int):A5 P c t (.int k a) (.int k b)=fV P (binOp c t (.int k a) (.int k b)):=by cases c<;>rfl
theorem lQ {c:BinOp}{t:TypeId}{q:Bool}{a b:Value}(d:flat a=true)(i:flat b=true)(g:xn a=false)(h:q_ a=false):dx P H c t q (some a) (some b)=A5 P c t a b:=by
 have e:dx P H c t q (some a) (some b)=oB P H c t q a b:=by cases a<;>first | rfl | cases h
 rw[e];show(bif flat a&&flat b then(bif q || !(xn a&&xn b)then A5 P c t a b else none)else xm P H c t a b)=_;rw[d,i,g];cases q<;>rfl
theorem gA (c:BinOp)(t:TypeId)(q:Bool)(k:IntKind)(a b:Int):dx P H c t q (some (.int k a)) (some (.int k b))=fV P (binOp c t (.int k a) (.int k b)):=by
 rw[lQ rfl rfl rfl rfl,Ny]
@[simp] theorem Ao (t:TypeId) (q:Bool) (k:IntKind) (a b:Int):dx P H .add t q (some (.int k a)) (some (.int k b))=some (.int k (k.wrap (a+b))):=by
  rw[gA];have e:binOp .add t (.int k a) (.int k b)=pure (.int k (k.wrap (a+b))):=by simp[binOp,Op.intArith]
  rw[e];exact gF rfl
@[simp] theorem Ap (t:TypeId) (q:Bool) (k:IntKind) (a b:Int):dx P H .sub t q (some (.int k a)) (some (.int k b))=some (.int k (k.wrap (a-b))):=by
  rw[gA];have e:binOp .sub t (.int k a) (.int k b)=pure (.int k (k.wrap (a-b))):=by simp[binOp,Op.intArith]
  rw[e];exact gF rfl
@[simp] theorem Aq (t:TypeId) (q:Bool) (k:IntKind) (a b:Int):dx P H .mul t q (some (.int k a)) (some (.int k b))=some (.int k (k.wrap (a*b))):=by
  rw[gA];have e:binOp .mul t (.int k a) (.int k b)=pure (.int k (k.wrap (a*b))):=by simp[binOp,Op.intArith]
  rw[e];exact gF rfl
theorem lG (t:TypeId)(q:Bool)(k:IntKind)(a b:Int)(c:b≠0):dx P H .quo t q (some (.int k a)) (some (.int k b))=some (.int k (k.wrap (a.tdiv b))):=by
 rw[gA];have e:binOp .quo t (.int k a) (.int k b)=pure (.int k (k.wrap (a.tdiv b))):=by simp[binOp,Op.intDiv,c]
 rw[e];exact gF rfl
theorem pz (t:TypeId)(q:Bool)(k:IntKind)(a b:Int)(c:b≠0):dx P H .rem t q (some (.int k a)) (some (.int k b))=some (.int k (a.tmod b)):=by
 rw[gA];have e:binOp .rem t (.int k a) (.int k b)=pure (.int k (a.tmod b)):=by simp[binOp,Op.intDiv,c]
 rw[e];exact gF rfl
@[simp] theorem Ar (t:TypeId) (q:Bool) (k:IntKind) (a b:Int):dx P H .lss t q (some (.int k a)) (some (.int k b))=some (.bool (decide (a<b))):=by
  rw[gA];have e:binOp .lss t (.int k a) (.int k b)=pure (.bool (decide (a<b))):=by simp[binOp,Op.intCmp]
  rw[e];exact gF rfl
@[simp] theorem As (t:TypeId) (q:Bool) (k:IntKind) (a b:Int):dx P H .leq t q (some (.int k a)) (some (.int k b))=some (.bool (decide (a<=b))):=by
  rw[gA];have e:binOp .leq t (.int k a) (.int k b)=pure (.bool (decide (a<=b))):=by simp[binOp,Op.intCmp]
  rw[e];exact gF rfl
@[simp] theorem At (t:TypeId) (q:Bool) (k:IntKind) (a b:Int):dx P H .gtr t q (some (.int k a)) (some (.int k b))=some (.bool (decide (b<a))):=by
  rw[gA];have e:binOp .gtr t (.int k a) (.int k b)=pure (.bool (decide (b<a))):=by simp[binOp,Op.intCmp]
  rw[e];exact gF rfl
@[simp] theorem Au (t:TypeId) (q:Bool) (k:IntKind) (a b:Int):dx P H .geq t q (some (.int k a)) (some (.int k b))=some (.bool (decide (b<=a))):=by
  rw[gA];have e:binOp .geq t (.int k a) (.int k b)=pure (.bool (decide (b<=a))):=by simp[binOp,Op.intCmp]
  rw[e];exact gF rfl
@[simp] theorem Av (t:TypeId) (q:Bool) (k:IntKind) (a b:Int):dx P H .eql t q (some (.int k a)) (some (.int k b))=some (.bool (decide (a=b))):=by
  rw[gA];have e:binOp .eql t (.int k a) (.int k b)=pure (.bool (decide (a=b))):=by simp[binOp,Op.intCmp];rfl
  rw[e];exact gF rfl
@[simp] theorem Aw (t:TypeId) (q:Bool) (k:IntKind) (a b:Int):dx P H .neq t q (some (.int k a)) (some (.int k b))=some (.bool (!decide (a=b))):=by
  rw[gA];have e:binOp .neq t (.int k a) (.int k b)=pure (.bool (!decide (a=b))):=by simp[binOp,Op.intCmp];rfl
  rw[e];exact gF rfl
theorem aaZ (a b:ByteArray):(a.toList == b.toList)=decide (a=b):=by
 rw[ByteArray.toList_eq,ByteArray.toList_eq];obtain⟨⟨x⟩⟩:=a;obtain⟨⟨y⟩⟩:=b;rw[dk];simp
theorem cf {t:TypeId}{z l:List Value}{vs:List (Nat×Value)}(a:dD P t=some z)(b:P.built t vs=some ⟨l⟩):cA P t (some vs)=some (.agg ⟨l⟩):=by
 show aw (dD P t) (λ_=>aw (P.built t vs) (λcs=>xf (.agg cs) some) none) none=_;rw[a,aZ,b,aZ,nB]
@[simp] theorem ym (t:TypeId) (q:Bool) (a b:ByteArray):dx P H .eql t q (some (.string a)) (some (.string b))=some (.bool (decide (a=b))):=by
  rw[lQ rfl rfl rfl rfl];have e:A5 P .eql t (.string a) (.string b)=fV P (binOp .eql t (.string a) (.string b)):=rfl;rw[e,binOp_string_eql,aaZ];exact gF rfl
@[simp] theorem yn (t:TypeId) (q:Bool) (a b:ByteArray):dx P H .neq t q (some (.string a)) (some (.string b))=some (.bool (!decide (a=b))):=by
  rw[lQ rfl rfl rfl rfl];have e:A5 P .neq t (.string a) (.string b)=fV P (binOp .neq t (.string a) (.string b)):=rfl;rw[e,binOp_string_neq,aaZ];exact gF rfl
theorem GF (t:TypeId)(q:Bool)(a b:ByteArray)(h:a.size+b.size<=9223372036854775807):dx P H .add t q (some (.string a)) (some (.string b))=some (.string (a++b)):=by
 rw[lQ rfl rfl rfl rfl];have e:A5 P .add t (.string a) (.string b)=fV P (binOp .add t (.string a) (.string b)):=rfl;have c:Op.stringOp .add a b=pure (.string (a++b)):=by
  simp only[Op.stringOp];rw[if_neg];have:IntKind.i64.max=9223372036854775807:=by decide
  rw[this];omega
 rw[e,binOp_string_add,c];exact gF rfl
@[simp] theorem Bs (b:Bool):HP P .not (some (.bool b))=some (.bool (!b)):=by cases b<;>rfl
@[simp] theorem yo {β:Type} (b:Bool) (k:Bool->β) (a:β):RO (.bool b) k a=k b:=rfl
theorem aS {n:Int}(h: -9223372036854775808<=n/\n<9223372036854775808):IntKind.i64.wrap n=n:=by
 unfold IntKind.wrap;have:IntKind.i64.bits=64:=rfl;have:IntKind.i64.signed=true:=rfl;simp only[*,ai];split
 . rename_i b;simp only[decide_eq_true_eq]at b;omega
 . rename_i b;simp only[decide_eq_true_eq]at b;omega
theorem Wq.bK {b:Bool}{x y:Q}(h:b=true->bA P pl X x nx0 H0 R)(a:b=false->bA P pl X y nx0 H0 R):bA P pl X (Ev.bK b x y) nx0 H0 R:=by
 cases b
 . exact a rfl
 . exact h rfl
theorem Wq.ite {p:Prop}[Decidable p]{x y:Q}(h:p->bA P pl X x nx0 H0 R)(a:¬p->bA P pl X y nx0 H0 R):bA P pl X (Ev.bK (decide p) x y) nx0 H0 R:=
 Wq.bK (λq=>h (of_decide_eq_true q)) (λq=>a (of_decide_eq_false q))
theorem Wq.gi {k:Nat->Q}(h:Ag nx0 H0 nx H)(a:Ag nx0 H0 (nx+1) H->bA P pl X (k (nx+1)) nx0 H0 R):bA P pl X (Ev.eF (cS nx) k) nx0 H0 R:=Wq.eF (a h.succ)
theorem Wq.up {σ:Type}(n:Nat)(q:Nat->σ->T OB->Nat->Q)(r:Nat->σ->Value)(c:∀s H1 aI,Ag nx0 H0 aI H1->Wq P pl X (q n s H1 aI) nx0 H0 (r n s))
 (b:∀i s H1 aI,i<n->(∀s g a,Ag nx0 H0 a g->Wq P pl X (q (i+1) s g a) nx0 H0 (r (i+1) s))->Ag nx0 H0 aI H1->Wq P pl X (q i s H1 aI) nx0 H0 (r i s)):
 ∀(i:Nat) (s:σ) (H1:T OB) (aI:Nat),i<=n->Ag nx0 H0 aI H1->Wq P pl X (q i s H1 aI) nx0 H0 (r i s):=by
 have h:∀(d i:Nat),n-i=d->i<=n->∀(s:σ) (H1:T OB) (aI:Nat),Ag nx0 H0 aI H1->Wq P pl X (q i s H1 aI) nx0 H0 (r i s):=by
  intro d
  induction d with
  | zero=>intro i hd hi s H1 aI e;obtain rfl:i=n:=by omega
          exact c s H1 aI e
  | succ d j=>intro i hd hi s H1 aI e;exact b i s H1 aI (by omega) (λs g a h=>j (i+1) (by omega) (by omega) s g a h) e
 exact λi s H1 aI hi e=>h (n-i) i rfl hi s H1 aI e
def dO (H:T OB)(b:Nat)(l:List Value)(e:TypeId):Prop:=∃tr,H.get (bits b)=some (.cells l.length tr e)/\∀i,i<l.length->tr.get (bits i)=l[i]?
theorem dO.new (l:List Value)(e:TypeId):dO (Ev.set H (bits nx) (some (fR l e))) nx l e:=⟨_,by rw[get_at,if_pos rfl];rfl,λi hi=>Af l i hi⟩
theorem dO.other {b:Nat}{l:List Value}{e:TypeId}(h:dO H b l e){c:Nat}(d:b≠c)(x:Option OB):dO (Ev.set H (bits c) x) b l e:=by
 obtain⟨tr,g,a⟩:=h;exact⟨tr,by rw[get_at,if_neg d];exact g,a⟩
theorem dO.ag {b:Nat}{l:List Value}{e:TypeId}(h:dO H b l e)(d:Ag nx H aI H1)(g:b<nx):dO H1 b l e:=by
 obtain⟨tr,c,a⟩:=h;exact⟨tr,(show hp H1 b=_ from(d.2 b g).trans c),a⟩
def mn (l u:List Value)(off:Nat):List Value:=l.take off++u++l.drop (off+u.length)
theorem mH {tr:T Value}{l:List Value}(h:∀i,i<l.length->tr.get (bits i)=l[i]?):∀(n off:Nat),off+n<=l.length->vd tr n off=some ((l.drop off).take n)
 | 0,off,_=>by rw[D5];simp
 | n+1,off,hn=>by
   have a:off<l.length:=by omega
   rw[D6,h off a,au a,mH h n (off+1) (by omega),dA a,gW]
theorem cR {b off s:Nat}{l:List Value}{e t:TypeId}(h:dO H b l e)(a:gf P t=some true)(g:bT P t=some s)(hn:off+s<=l.length):
 aA P H t (some (.pointer (some ⟨b,off,none⟩)))=some (.agg ⟨(l.drop off).take s⟩):=by
 obtain⟨tr,d,c⟩:=h;show nX P H t b off=_;unfold nX;rw[d];show oz P l.length tr t off=_;unfold oz;rw[a,aZ];show xh P l.length tr t off=_;unfold xh;rw[g,aZ,mH c s off hn,av hn];rfl
theorem aB {b off:Nat}{l:List Value}{e t:TypeId}{u:Value}(h:dO H b l e)(d:gf P t=some false)(c:l[off]? = some u):aA P H t (some (.pointer (some ⟨b,off,none⟩)))=some u:=by
 obtain⟨tr,i,g⟩:=h;have a:=(ar.1 c).1;show nX P H t b off=_;unfold nX;rw[i];show oz P l.length tr t off=_;unfold oz;rw[d,aZ];show xg l.length tr off=_;unfold xg;have j:bY off l.length=true:=av a;rw[j,g off a,c];rfl
theorem Wq.alloc {e:TypeId}{l:List Value}{k:Value->T OB->Nat->Q}(a:dD P e=some l)(h:Ag nx0 H0 nx H)
 (c:∀H',dO H' nx l e->(∀b l e,b<nx->dO H b l e->dO H' b l e)->Ag nx0 H0 (nx+1) H'->bA P pl X (k (.pointer (some ⟨nx,0,none⟩)) H' (nx+1)) nx0 H0 R):bA P pl X (bU (eN P H nx e) k) nx0 H0 R:=by
 rw[nH a];exact c _ (dO.new l e) (λb l e hb h=>h.other (by omega) _) (h.succ.set h.1 _)
theorem Wq.box {e:TypeId}{u:Value}{k:Value->T OB->Nat->Q}(h:Ag nx0 H0 nx H)
 (c:∀H',dO H' nx u.cells.toList e->(∀b l e,b<nx->dO H b l e->dO H' b l e)->Ag nx0 H0 (nx+1) H'->bA P pl X (k (.pointer (some ⟨nx,0,none⟩)) H' (nx+1)) nx0 H0 R):bA P pl X (bU (mi H nx e (some u)) k) nx0 H0 R:=by
 have a:bU (mi H nx e (some u)) k=k (nY nx) (Ev.set H (bits nx) (some (fR u.cells.toList e))) (nx+1):=by
  show bU (DW H nx e u.cells.toList λH n=> .val (nY nx) H n) k=_;rw[iS];rfl
 rw[a];exact c _ (dO.new _ e) (λb l e hb h=>h.other (by omega) _) (h.succ.set h.1 _)
theorem LQ {l u:List Value}{off i:Nat}(hn:off+u.length<=l.length):(mn l u off)[i]? = if off<=i/\i<off+u.length then u[i-off]? else l[i]? := by
 unfold mn;have a:(l.take off).length=off:=by simp;omega
 by_cases h:i<off
 . rw[if_neg (by omega),bn,bc (by omega),bR,if_pos h]
 . by_cases h2:i<off+u.length
   . rw[if_pos (by omega),bn,bZ (by omega),bc (by omega),a]
   . rw[if_neg (by omega),bZ (by simp;omega),bL];congr 1;simp;omega
theorem sB {l u:List Value}{off:Nat}(hn:off+u.length<=l.length):(mn l u off).length=l.length:=by
 unfold mn;simp;omega
theorem Wq.store {b off s:Nat}{l:List Value}{e t:TypeId}{u:Value}{k:Value->T OB->Nat->Q}(z:dO H b l e)(p:bT P t=some s)(hn:off+s<=l.length)(j:u.cells.toList.length=s)(d:u.cells.toList.all aC=true)
 (h:Ag nx0 H0 nx H) (g:nx0<=b) (x:∀H',dO H' b (mn l u.cells.toList off) e->(∀c l e,c≠b->dO H c l e->dO H' c l e)->Ag nx0 H0 nx H'->bA P pl X (k undef H' nx) nx0 H0 R):
 bA P pl X (bU (eD P H nx t (some (.pointer (some ⟨b,off,none⟩))) (some u)) k) nx0 H0 R:=by
 obtain⟨tr,o,y⟩:=z;have q:eD P H nx t (some (.pointer (some ⟨b,off,none⟩))) (some u)= .val undef (Ev.set H (bits b) (some (.cells l.length (iQ u.cells.toList off tr) e))) nx:=by
  show gM (H.get (bits b)) (λn tr e=>aw (bT P t) (λs=>bif ay u.cells.toList.length s&&bj (off+s) n&&u.cells.toList.all aC then
   iX u.cells.toList off tr λtr=>fQ (bits b) H (some (.cells n tr e)) λH=>iV.val undef H nx else .bad) .bad) .bad=_
  rw[o];show aw (bT P t) (λs=>bif ay u.cells.toList.length s&&bj (off+s) l.length&&u.cells.toList.all aC then
   iX u.cells.toList off tr λtr=>fQ (bits b) H (some (.cells l.length tr e)) λH=>iV.val undef H nx else .bad) .bad=_
  rw[p,aZ,j,cm,av hn,d,fW,bQ];rfl
 rw[q];have a:off+u.cells.toList.length<=l.length:=by rw[j];exact hn
 refine x _ ⟨iQ u.cells.toList off tr,?_,λi hi=> ?_⟩ (λc l e m h=>h.other m _) (h.set g _)
 . rw[get_at,if_pos rfl,sB a]
 . rw[sB a]at hi;rw[gz,LQ a];split
   . rfl
   . exact y i hi
end
end
end Go.Ev
namespace Go.Proofs.YthjhonhhbddhkaaGreatDoor
open Go.Ev Go.RowKit
noncomputable section
set_option maxRecDepth 100000
set_option linter.unusedVariables false
set_option linter.unusedSimpArgs false
set_option maxHeartbeats 8000000
noncomputable abbrev P:Program:=Tryz.prog
def pl:ny:=⟨[(157,[0]),(116,[0]),(142,[0]),(138,[0]),(82,[0]),(173,[0]),(79,[0]),(28,[1000]),(22,[1000]),(61,[1000]),(107,[1000]),(108,[1000]),(151,[1000]),(178,[1000]),(188,[1000]),(177,[1000]),(147,[1000]),(175,[1000]),(104,[1000]),(149,[1000]),(148,[1000]),(105,[1000]),(60,[1000]),(103,[1000]),(35,[1000]),(121,[1000]),(67,[1000]),(38,[1000]),(16,[1000]),(39,[1000]),(69,[1000]),(70,[1000]),(124,[1000]),(161,[1000]),(182,[1000]),(191,[1000]),(193,[1000]),(194,[1000]),(195,[1000]),(196,[1000]),(199,[1000]),(198,[1000]),(160,[1000]),(120,[1000]),(158,[1000]),(181,[1000]),(66,[1000]),(122,[1000]),(65,[1000]),(125,[1000])],[(76,[1]),(14,[0,1]),(29,[0]),(25,[0]),(30,[0]),(31,[0]),(115,[0]),(83,[0]),(43,[0]),(15,[0])],[(7,[2]),(15,[6]),(16,[10]),(25,[2,3]),(27,[5]),(28,[7]),(29,[2,3]),(30,[2,3]),(31,[2,3]),(33,[1]),(34,[4]),(36,[1,3]),(38,[4,5]),(39,[3,4,5,6,7,8]),(41,[7]),(42,[6]),(43,[6]),(44,[1,5]),(45,[1,5]),(47,[5,7]),(49,[1]),(50,[1,5,7,9,11,13]),(61,[3,4,5,6]),(64,[1]),(65,[4]),(66,[4]),(67,[4,5,7]),(69,[5,6]),(70,[4]),(71,[5]),(72,[2]),(73,[2]),(74,[2]),(75,[3,5,7]),(80,[1]),(81,[1]),(84,[1]),(86,[1]),(87,[1]),(90,[1]),(93,[1]),(94,[1]),(95,[1]),(96,[1,5]),(97,[1,5,7]),(98,[1,5]),(103,[4]),(105,[4]),(109,[5]),(119,[5]),(120,[3,4]),(121,[3,5,6]),(122,[4]),(124,[4]),(125,[4,5]),(126,[2]),(128,[6]),(131,[3,5]),(132,[3]),(133,[3]),(134,[3,7]),(135,[3,5]),(137,[1]),(140,[1]),(141,[1]),(143,[1]),(146,[5]),(148,[4]),(152,[3]),(158,[3,5]),(160,[3,6]),(161,[3,4]),(162,[5]),(163,[3,5]),(164,[8]),(165,[7]),(166,[3,5,6]),(168,[3]),(170,[3]),(171,[3,5,7]),(172,[1]),(175,[4]),(177,[3]),(178,[3,6]),(181,[5]),(182,[5]),(183,[1]),(185,[3]),(187,[4]),(188,[4]),(191,[3,4]),(193,[5]),(194,[5]),(195,[4,6]),(196,[3]),(198,[4]),(199,[4,8])],[((4,9),[0,3,4]),((6,20),[0,5,7,8,43]),((7,16),[1,2,5,6,7,42]),((7,23),[1,2,6,8]),((8,6),[0,1,26]),((8,18),[1,6,8,54]),((8,25),[1,6,8,11,12]),((8,32),[1,6,11,90]),((8,44),[6,11,13]),((35,7),[0,3]),((35,14),[0,3,4]),((23,9),[0,3,4]),((27,9),[3,6,7,8]),((21,7),[0,3]),((20,13),[0,4,5]),((20,20),[0,4,5]),((17,11),[0,1,2,7]),((17,22),[0,1,2,7,8,9]),((14,11),[0,1,5]),((14,18),[0,1,5,6,7,75]),((14,23),[0,1,5,6,7,8]),((14,30),[0,1,5,6,7,8,113]),((16,7),[0,5]),((16,19),[6,7]),((16,28),[6,7,8]),((34,12),[0,1,2,4]),((15,7),[0,2,3,4,8,9,10]),((22,13),[0,5,6]),((25,6),[2,3,49]),((25,11),[2,3,5]),((24,14),[0]),((49,12),[1,3,4]),((49,58),[3]),((49,27),[1,3,5]),((49,44),[3,4,75]),((49,35),[1,3,5,6]),((49,47),[3,4,7]),((49,53),[3,4,7,8]),((50,70),[3]),((50,17),[3,28,29,30]),((50,39),[3,56,57,58]),((50,59),[3,79,80,81]),((50,25),[3,28,29,30,40,41,42]),((50,45),[3,56,57,58,63,64,65]),((45,29),[1,3,4]),((45,47),[1,3,6]),((45,72),[]),((45,36),[1,3,4,89]),((45,57),[1,3,7]),((42,9),[4,9,10,11]),((41,9),[0,1,5,6]),((41,21),[0,1,5,6,7,8]),((41,29),[0,1,5,6,7,8,9]),((41,37),[0,1,5,6,7,10]),((41,47),[0,1,5,6,7,11]),((44,17),[1,3,4]),((44,45),[1,9,10]),((44,66),[1]),((44,29),[1,3,4,5,6,7,8]),((44,60),[1,9,11]),((43,9),[4,7,8,9]),((43,34),[4,7,8,9]),((43,22),[4,6,7,8,9]),((32,11),[0,1,5]),((31,6),[2,3,29]),((31,11),[2,3,5]),((31,21),[2,3,6]),((40,10),[5]),((36,10),[1,28]),((33,26),[1,66]),((33,46),[1,90]),((33,31),[1,3]),((33,48),[1,110]),((33,36),[1,3,86]),((33,53),[1,4]),((28,13),[0,5,6]),((47,19),[0,2,4]),((46,7),[0,4]),((46,12),[0,4,11]),((46,16),[0,4,36]),((108,11),[0,1,4,5]),((108,14),[0,1,4,5,6,26]),((107,5),[0,3,4]),((105,17),[0,2,5]),((105,22),[2]),((104,10),[2,3]),((103,24),[0,2,3]),((103,19),[0,2,3]),((103,31),[0,2,3]),((95,9),[1,3,4]),((94,9),[1,3,4]),((94,17),[1,3,5]),((93,9),[1,3,4]),((98,9),[3,7,8,9]),((97,9),[1,3,12,13,14]),((97,19),[3,24,25,26]),((96,9),[3,7,8,9]),((89,7),[0,3]),((87,7),[1,3]),((87,16),[1,36]),((87,62),[1,4,41,91]),((87,81),[1,4,5]),((87,86),[1,4,5,152]),((86,6),[1,16]),((75,24),[0,3]),((75,27),[0,48,49,50]),((75,39),[0,5,48,49,50,76,77,78]),((74,9),[1,2,5,6]),((73,9),[1,2,5,6]),((73,17),[1,2,5,7]),((72,9),[1,2,5,6]),((83,9),[0,1,5,6]),((83,16),[0,1,5,6]),((82,9),[0,3,4]),((81,67),[1,3,4,5]),((81,78),[1]),((80,40),[1]),((79,9),[0,3,4]),((79,18),[0,3,4,5,20]),((79,30),[0,3,4,5,43]),((78,10),[0,3]),((78,15),[0,3,4,5]),((78,28),[4,5]),((53,11),[0,1,5]),((53,16),[0,1,5,54]),((70,7),[0,2,3]),((69,5),[0,3,4]),((67,19),[0,2,6]),((67,26),[2]),((66,12),[2,3]),((65,20),[0,2,3]),((65,15),[0,2,3]),((65,25),[0,2,3]),((58,6),[0,3]),((54,7),[1,7,8,9]),((52,54),[2,5,6]),((52,38),[0,2,4,5,6,102]),((52,46),[0,2,5,6,121]),((52,49),[0,2,5,6]),((52,13),[0,2,5,6,23,24]),((52,18),[0,2,5,6,8,23,24,59]),((51,7),[0,3,4]),((51,18),[0,3,4,5,6]),((51,42),[3]),((51,24),[0,3,4]),((51,30),[0,3,4,5,69]),((51,36),[0,3,4,85]),((92,7),[0,3]),((91,7),[0,3]),((91,12),[0,3,11]),((91,16),[0,3,32]),((153,7),[1,7,8,9]),((152,8),[3,13]),((151,8),[0,2,3,13]),((151,15),[0,2,4]),((148,20),[0,2,3]),((149,7),[0,2,3]),((147,11),[0,2,3]),((147,14),[0,2,3]),((146,10),[0,4,5]),((143,7),[1,3]),((115,7),[0,1,5]),((141,42),[2,3]),((141,20),[1,2,3,10,17]),((141,28),[1,2,3,10,25]),((141,36),[1,2,3,10,31]),((133,6),[0,3,12]),((135,11),[0,18,19,20]),((134,10),[0,3]),((134,13),[0,3,21,22,23]),((134,20),[0,3,5,21,22,23]),((134,28),[0,3]),((134,35),[0,59,60,61]),((131,36),[0,3,7,51]),((131,40),[0,3]),((131,83),[0,163,164,165]),((130,14),[0]),((130,20),[0,3]),((130,26),[0,3]),((130,38),[0,3]),((130,44),[0,3]),((130,28),[0,3,72]),((128,8),[3,4,5,6,72]),((126,9),[1,2,5,6]),((137,6),[1,11]),((139,9),[0,1,5,6]),((118,9),[0,3,4]),((118,18),[0,3,4,5,20]),((118,30),[0,3,4,5,43]),((138,9),[0,3,4]),((124,7),[0,2,3]),((121,10),[0,2,3,4,19]),((122,7),[0,2,3]),((119,8),[0,5,17]),((114,6),[0,17]),((114,11),[0,3]),((114,16),[0,3,34]),((113,10),[20]),((112,6),[0,17]),((112,11),[0,3]),((111,6),[0,15]),((111,13),[0,4,5]),((110,9),[0,4,5]),((110,14),[0,4,5,27]),((117,9),[0,3,4]),((117,16),[0,3,4,5]),((102,7),[0,1,5]),((101,9),[0,4,5]),((101,10),[0,4,5]),((101,34),[0,4,5,6,49]),((100,7),[0,4,5]),((179,14),[0,6]),((178,47),[0,2,4,73,74]),((178,55),[0,2,4,6,7]),((178,60),[0,2,4,73,74]),((177,53),[0,2,4]),((177,56),[0,2,4]),((176,14),[0,6]),((175,44),[0,2,3]),((175,29),[0,2,3,7]),((175,47),[0,2,3,10,11]),((175,40),[0,2,3,7,8]),((171,18),[0,3,9,26]),((171,20),[0,3]),((171,40),[0,3]),((171,23),[0,3,52,53,54]),((171,43),[0,3,85,86,87]),((171,30),[0,3,5,52,53,54]),((171,50),[0,3,7,85,86,87]),((171,58),[0,3]),((165,5),[0,2,8,9,10]),((165,12),[0,2,7,8,9,10]),((170,46),[0,3,77]),((170,56),[0,3]),((169,6),[0,2,10]),((167,7),[0,5,6]),((166,13),[0,3,19,20,21]),((166,18),[0,3,5,19,20,21]),((166,38),[0]),((162,5),[0,6,7,8]),((162,12),[0,5,6,7,8]),((163,6),[0,3]),((163,10),[0,3]),((163,23),[0,92,93,94]),((173,9),[0,3,4]),((173,16),[0,3,4,5,39]),((172,20),[1,5]),((160,8),[0,2,3,33]),((160,42),[0,2,83]),((160,51),[0,2,5]),((160,56),[0,2,5]),((158,13),[0,2,4]),((155,6),[0,20]),((155,36),[0,58]),((145,14),[0,8,9]),((145,28),[0,34]),((188,7),[0,2,3]),((188,14),[0,2,3,4]),((188,25),[0,2,3,6]),((188,28),[0,2,3,6]),((187,8),[0,4,13]),((185,6),[0,3,17]),((184,4),[0,1,2]),((184,7),[0,1,2,6]),((184,14),[0,1,2,6]),((183,20),[5]),((182,7),[0,2,3]),((181,36),[0,2,3]),((181,17),[0,2,3,4]),((181,37),[0,2,3]),((174,10),[0,9]),((192,7),[0,1,5]),((193,7),[0,2,3]),((194,7),[0,2,3]),((195,17),[0,2,5]),((196,8),[0,2,3,32]),((196,34),[0,2,73]),((196,44),[0,2,4]),((199,10),[0,2,6,7]),((199,11),[0,2,6,7]),((198,7),[0,2,3]),((198,14),[0,2,3,4]),((198,24),[0,2,3,6])],true⟩
abbrev i64 (n:Int):Value:= .int .i64 n
abbrev TQ:Type:=T OB->Nat->Q
def pB (a:BinOp)(c:TypeId)(b:Bool)(x y:Value)(k:Value->TQ)(H:T OB)(nx:Nat):Q:=aw (dx P H a c b (some x) (some y)) (λz=>k z H nx) .bad
def pT (a:BinOp)(d:TypeId)(b:Bool)(x y:Value)(A B:TQ)(H:T OB)(nx:Nat):Q:=aw (dx P H a d b (some x) (some y)) (λz=>RO z (λc=>bK c (A H nx) (B H nx)) .bad) .bad
def pL (a:TypeId)(x:Value)(k:Value->TQ)(H:T OB)(nx:Nat):Q:=aw (aA P H a (some x)) (λz=>k z H nx) .bad
def pF (t:TypeId)(x:Value)(n:Nat)(k:Value->TQ)(H:T OB)(nx:Nat):Q:=aw (aq P t (some x) n) (λz=>k z H nx) .bad
def pX (t:TypeId)(x:Value)(n:Nat)(b:TypeId)(k:Value->TQ)(H:T OB)(nx:Nat):Q:=aw (aq P t (some x) n) (λa=>aw (aA P H b (some a)) (λz=>k z H nx) .bad) .bad
def pN (t a:TypeId)(x:Value)(k:Value->TQ)(H:T OB)(nx:Nat):Q:=aw (e_ P #[t] a (some [x])) (λz=>k z H nx) .bad
def pA (t:TypeId)(x y:Value)(k:Value->TQ)(H:T OB)(nx:Nat):Q:=aw (cq P t (some x) (some y)) (λz=>k z H nx) .bad
def pI (t:TypeId)(x y:Value)(k:Value->TQ)(H:T OB)(nx:Nat):Q:=aw (eB P t (some x) (some y)) (λz=>k z H nx) .bad
def pE (x:Value)(n:Nat)(k:Value->TQ)(H:T OB)(nx:Nat):Q:=aw (bH (some x) n) (λz=>k z H nx) .bad
def pY (x:Value)(k:Value->TQ)(H:T OB)(nx:Nat):Q:=aw (rT (some x)) (λz=>k z H nx) .bad
def pD (t:TypeId)(l:List (Nat×Value))(k:Value->TQ)(H:T OB)(nx:Nat):Q:=aw (cA P t (some l)) (λz=>k z H nx) .bad
def jM (x:Value)(k:Value->TQ)(H:T OB)(nx:Nat):Q:=aw (HP P .not (some x)) (λz=>k z H nx) .bad
def pO (x:Option Value)(k:Value->TQ)(H:T OB)(nx:Nat):Q:=aw x (λz=>k z H nx) .bad
def pV (x:Value)(A B:TQ)(H:T OB)(nx:Nat):Q:=RO x (λc=>bK c (A H nx) (B H nx)) .bad
def pW (x:Value)(k:Bool->TQ)(H:T OB)(nx:Nat):Q:=RO x (λz=>k z H nx) .bad
def pK (c:Bool)(A B:TQ)(H:T OB)(nx:Nat):Q:=bK c (A H nx) (B H nx)
def pC (f:FuncId)(l:List Value)(k:Value->TQ)(H:T OB)(nx:Nat):Q:=dm (.call f l false none H nx) k jy
def pJ (c:T OB->Nat->bV)(H:T OB)(nx:Nat):Q:= .jump (c H nx)
def pR (v:Value)(H:T OB)(nx:Nat):Q:= .ret ⟨.ret v,false,H,nx⟩
def pZ (t:TypeId)(v:Value)(k:Value->TQ)(H:T OB)(nx:Nat):Q:=dM P t v H nx k
def pQ (t:TypeId)(v:Value)(k:Value->TQ)(H:T OB)(nx:Nat):Q:=gD P t v H nx k
def pU (k:TQ)(H:T OB)(nx:Nat):Q:=eF (cS nx) (λnx=>k H nx)
def pH (t:TypeId)(x v:Value)(k:TQ)(H:T OB)(nx:Nat):Q:=sx P H nx t (some x) v k
def pS (b:TypeId)(a v:Value)(k:Value->TQ)(H:T OB)(nx:Nat):Q:=bU (eD P H nx b (some a) (some v)) k
def pM (a:TypeId)(k:Value->TQ)(H:T OB)(nx:Nat):Q:=bU (eN P H nx a) k
def pG (t:TypeId)(n:Nat)(l:List (Nat×Value))(k:Value->TQ)(H:T OB)(nx:Nat):Q:=bU (bC P H nx t n (some l)) k
def pP (t:List TypeId)(l:List Value)(k:Value->TQ)(H:T OB)(nx:Nat):Q:=bU (fe P H nx t (some l)) k
abbrev ct (f n b:Nat)(l:List (Nat×Value))(H:T OB)(nx:Nat):bV:= .at ⟨f,n,false,[],none,false⟩ (LP l) (Nw P f b) H nx
end
end Go.Proofs.YthjhonhhbddhkaaGreatDoor
namespace Go.Ev
noncomputable section
set_option maxRecDepth 100000
set_option linter.unusedVariables false
set_option linter.unusedSimpArgs false
section
variable {P:Program}{pl:ny}{X:Ext}{H H0 H1:T OB}{nx nx0 aI:Nat}{v u:Value}{R:Go.Ev.Out->T OB->Nat->Prop}
theorem Wq.new {e:TypeId}{l:List Value}{q:T OB->Nat->Q}(h:Ag nx0 H0 nx H)(a:∀H',dO H' nx l e->(∀b l e,b<nx->dO H b l e->dO H' b l e)->Ag nx0 H0 (nx+1) H'->bA P pl X (q H' (nx+1)) nx0 H0 R):
 bA P pl X (q (Ev.set H (bits nx) (some (fR l e))) (nx+1)) nx0 H0 R:=a _ (dO.new l e) (λb l e hb h=>h.other (by omega) _) (h.succ.set h.1 _)
theorem Wq.row {t e:TypeId}{s n:Nat}{vs:List (Nat×Value)}{z l:List Value}{k:Value->T OB->Nat->Q}(o:P.underlying t=some (.slice e))(d:bT P e=some s)(c:dD P e=some z)
 (m:(bj (n*s) 16777216&&bY 0 (n*s)&&bY 0 z.length)=true) (a:Instr.fill (λi=>some (i*s,s)) (cI z (n*s)) vs=some ⟨l⟩) (h:Ag nx0 H0 nx H)
 (j:∀H',dO H' nx l e->(∀b l e,b<nx->dO H b l e->dO H' b l e)->Ag nx0 H0 (nx+1) H'->bA P pl X (k (.slice (some ⟨nx,0,none⟩) n n) H' (nx+1)) nx0 H0 R):
 bA P pl X (bU (bC P H nx t n (some vs)) k) nx0 H0 R:=by
 have g:bU (bC P H nx t n (some vs)) k=k (.slice (some ⟨nx,0,none⟩) n n) (Ev.set H (bits nx) (some (fR l e))) (nx+1):=by
  unfold bC fU;rw[aZ,o];simp only[d,aZ,c,m,cond_true,a];rw[iS,bW];rfl
 rw[g];exact Wq.new h j
theorem Bt {b s n c:Nat}{l:List Value}{e:TypeId}(h:dO H b l e)(hn:l.length=n*s):qv H s (.slice (some ⟨b,0,none⟩) n c)=some (n,l):=by
 obtain⟨tr,d,a⟩:=h;show aw (cellsOf H s (some ⟨b,0,none⟩) n) (λl=>some (n,l)) none=_;unfold cellsOf;simp only;rw[d];show aw (bif bj (0+n*s) l.length then vd tr (n*s) 0 else none) (λl=>some (n,l)) none=_;rw[bN,hn,av (ax _),cond_true,<- hn,mH a _ _ (by omega)];simp
theorem EF (s:Nat)(es:List Value):qv H s (bM s es)=some (es.length,es.flatMap λu=>u.cells.toList):=by
 show(bif ay s s then some (es.length,es.flatMap λu=>u.cells.toList)else none)=_;rw[cm];rfl
def isStr (v:Value):Bool:=match v with
 | .string _=>true
 | _=>false
theorem p4 {t:TypeId}{x:Value}{a:Option Addr}{b c:Nat}(hx:isStr x=false):fe P H nx [t,t] (some [.slice a b c,x])=fU P t (λe s=>aw (qv H s x) (λp=>bif da P e s (b+p.1)then rU P H nx e s a b c p.1 p.2 else .bad) .bad) .bad:=by
 have d:fe P H nx [t,t] (some [.slice a b c,x])=rV P H nx [t,t] (some [.slice a b c,x]):=by cases x<;>first | rfl | cases hx
 rw[d];show(bif !Nat.beq t t then iV.bad else _)=_;rw[cm];rfl
theorem Wq.Nz {t e:TypeId}{s m:Nat}{x:Value}{xs:List Value}{k:Value->T OB->Nat->Q}(o:P.underlying t=some (.slice e))(i:bT P e=some s)(hx:isStr x=false)(d:qv H s x=some (m,xs))(g:da P e s m=true)(h:Ag nx0 H0 nx H)
 (p:m=0->bA P pl X (k (.slice none 0 0) H nx) nx0 H0 R)
 (j:∀H',0<m->dO H' nx xs e->(∀b l e,b<nx->dO H b l e->dO H' b l e)->Ag nx0 H0 (nx+1) H'->bA P pl X (k (.slice (some ⟨nx,0,none⟩) m iw) H' (nx+1)) nx0 H0 R):
 bA P pl X (bU (fe P H nx [t,t] (some [.slice none 0 0,x])) k) nx0 H0 R:=by
 rw[p4 hx];unfold fU;rw[o];simp only[i,aZ,d,bN,g,cond_true];show bA P pl X (bU (bif ay 0 0&&ay 0 0 then(bif ay m 0 then .val (.slice none 0 0) H nx else kD H nx e m xs)else .bad) k) nx0 H0 R;cases m with
 | zero=>exact p rfl
 | succ m=>
   show bA P pl X (bU (kD H nx e (m+1) xs) k) nx0 H0 R;rw[kU];exact Wq.new (q:=λH n=>k (.slice (some ⟨nx,0,none⟩) (m+1) iw) H n) h λH' a b c=>j H' (Nat.succ_pos _) a b c
theorem Wq.app {t e d:TypeId}{b s n m:Nat}{x:Value}{l xs:List Value}{k:Value->T OB->Nat->Q}(G:P.underlying t=some (.slice e))(L:bT P e=some s)(y:dO H b l d)(i:bT P d=some s)(D:l.length=n*s)(hx:isStr x=false)(o:qv H s x=some (m,xs))
 (a:xs.all aC=true) (g:da P e s (n+m)=true) (h:Ag nx0 H0 nx H) (p:nx0<=b) (hbx:b<nx)
 (J:∀H',dO H' nx (l++xs) e->(∀c l e,c≠b->c<nx->dO H c l e->dO H' c l e)->Ag nx0 H0 (nx+1) H'->bA P pl X (k (.slice (some ⟨nx,0,none⟩) (n+m) iw) H' (nx+1)) nx0 H0 R):
 bA P pl X (bU (fe P H nx [t,t] (some [.slice (some ⟨b,0,none⟩) n iw,x])) k) nx0 H0 R:=by
 rw[p4 hx];unfold fU;rw[G];simp only[L,aZ,o,g,cond_true];obtain⟨tr,C,F⟩:=y;have M:rU P H nx e s (some ⟨b,0,none⟩) n iw m xs=kD (Ev.set H (bits b) (some .dead)) nx e (n+m) (l++xs):=by
  show zD P H nx e s b 0 n iw m xs=_;unfold zD;rw[C];have E:ay iw iw=true:=cm _;simp only[gM,E,cond_true];unfold XA xk;rw[C];show(bif ay 0 0&&bj (n*s) l.length&&aw (bT P d) (λz=>ay z s) false&&xs.all aC then _ else _)=_;rw[i,aZ,cm,D,av (ax _),a];have:vd tr (n*s) 0=some l:=by rw[<- D,mH F _ _ (by omega)];simp
  rw[this,cm];show fQ (bits b) H (some .dead) (λH=>kD H nx e (n+m) (l++xs))=_;rw[bQ]
 rw[M,kU];exact Wq.new (q:=λH n'=>k (.slice (some ⟨nx,0,none⟩) (n+m) iw) H n') (h.set p _) λH' I y K=>J H' I (λc l e B j hi=>y c l e j (hi.other B _)) K
theorem mo:∀(l:List Value),chunk false 1 l.length l=some l
 | []=>rfl
 | v::l=>by
   show(bif bj 1 (l.length+1)then aw (chunk false 1 l.length l) (λr=>bK false _ (aw (some v) (λv=>some (v::r)) none)) none else none)=_;rw[av (by omega),mo l];rfl
theorem lR (s:Nat):∀(es:List (List Value)),(∀x,x∈es->x.length=s)->chunk true s es.length es.flatten=some (es.map λx=> .agg ⟨x⟩)
 | [],_=>rfl
 | x::es,h=>by
   have hx:=h x fC;show(bif bj s (x++es.flatten).length then aw (chunk true s es.length ((x++es.flatten).drop s)) (λr=>some (.agg ⟨(x++es.flatten).take s⟩::r)) none else none)=_;rw[av (by simp;omega),<- hx,List.drop_left,List.take_left,hx,lR s es λy a=>h y (aH _ a)];rfl
theorem Wq.VU {t e D:TypeId}{b s n c:Nat}{a:Bool}{l es:List Value}{k:Value->T OB->Nat->Q}(p:P.underlying t=some (.slice e))(A:bT P e=some s)(q:gf P e=some a)(g:(bY 0 s&&(a||ay s 1))=true)(F:dO H b l D)(o:l.length=n*s)
 (i:(ay c iw||bj n c)=true) (j:chunk a s n l=some es) (d:(es.all λx=>Ev.bK a true (aC x))=true) (h:Ag nx0 H0 nx H) (m:nx0<=b)
 (C:∀H',(∀c l e,c≠b->dO H c l e->dO H' c l e)->Ag nx0 H0 (nx+1) H'->bA P pl X (k (bM s es) H' (nx+1)) nx0 H0 R):
 bA P pl X (gD P t (.slice (some ⟨b,0,none⟩) n c) H nx k) nx0 H0 R:=by
 obtain⟨tr,z,E⟩:=F;have y:R0 P H e b 0 n=some (bM s es):=by
  unfold R0;rw[z];show aw (bT P e) (λs=>aw (gf P e) (λa=>bif bj (0+n*s) l.length&&bY 0 s&&(a||ay s 1)then _ else none) none) none=_;rw[A,aZ,q,aZ,bN,o,av (ax _),ai,g,cond_true];have:vd tr (n*s) 0=some l:=by rw[<- o,mH E _ _ (by omega)];simp
  rw[this,aZ,j,aZ,d];rfl
 have B:gD P t (.slice (some ⟨b,0,none⟩) n c) H nx k=k (bM s es) (Ev.set H (bits b) (some (roB (H.get (bits b))))) (nx+1):=by
  unfold gD;rw[p];simp only;unfold jw;rw[p];simp only;rw[i,cond_true,y,aZ,bQ,bW]
 rw[B];exact C _ (λc l e i hi=>hi.other i _) ((h.set m _).succ)
theorem NA {s:TypeId}{f d b o:Nat}(h:oA P s f=some d):aq P s (some (.pointer (some ⟨b,o,none⟩))) f=some (.pointer (some ⟨b,o+d,none⟩)):=by
 show faV (oA P s f) (nm P s f) (.pointer (some ⟨b,o,none⟩))=_;rw[h];show eF (iq o d) (λo=>some (Value.pointer (some ⟨b,o,none⟩)))=_;rw[bW];rfl
theorem yp {t:TypeId}{s b off len c i:Nat}(a:tA P t=some s)(hi:i<len)(k:IntKind):cq P t (some (.slice (some ⟨b,off,none⟩) len c)) (some (.int k (i:Int)))=some (.pointer (some ⟨b,off+i*s,none⟩)):=by
 show lI (i:Int) (MP P t (some (.slice (some ⟨b,off,none⟩) len c))) none=_;rw[iY];show aw (tA P t) (λs=>bif bY i len then eF (iq off (Nat.mul i s)) (λo=>some (Value.pointer (some ⟨b,o,none⟩)))else none) none=_;rw[a,aZ,show bY i len=true from av hi,cond_true,bW];rfl
theorem jH {t b:TypeId}{a:Addr}{n c:Nat}(h:kb P (some t)=true):e_ P #[t] b (some [.slice (some a) n c])=some (.int .i64 (n:Int)):=by
 show(bif kb P (some t)then some (Value.int .i64 (.ofNat n))else none)=_;rw[h];rfl
@[simp] theorem NB (a:Option Addr) (n c:Nat):zA (some false) (some 1) (.slice a n c)=some (.slice a n c):=rfl
@[simp] theorem yq (a:Option Addr) (n c:Nat):aC (.slice a n c)=true:=rfl
@[simp] theorem EG (u:Value):rT (some (ah u))=some (ah u):=rfl
@[simp] theorem Ax (a:Addr):rT (some (.pointer (some a)))=some (.pointer (some a)):=rfl
theorem Wq.qL {f:FuncId}{b:List Value}{R1:Value->T OB->Nat->Prop}{k p:Value->T OB->Nat->Q}(hx:X f b=none)(h:e8 P pl X (aX P pl (.call f b false none H nx)) nx0 H0 R1)
 (l:∀u H' nx',Ag nx0 H0 nx' H'->R1 u H' nx'->bA P pl X (k u H' nx') nx0 H0 R):bA P pl X (dm (.call f b false none H nx) k p) nx0 H0 R:=by
 obtain⟨_,H1,aI,g,⟨u,rfl,d⟩,n⟩:=h;obtain⟨v,e,c,q,m,i⟩:=l u H1 aI g d;refine⟨v,e,c,q,m,?_⟩;show aw (F P pl X (.call f b false none H nx)) (λr=>(match r.o with | .ret v=>k v r.H r.nx | .j_ v=>p v r.H r.nx:Q).run (F P pl X)) none=_;have j:F P pl X (.call f b false none H nx)=some ⟨.ret u,false,H1,aI⟩:=by
  rw[tS];show @gm Value (λ_=>Option Rt) _ (λv=>some ⟨.ret v,false,H,nx⟩) (X f b)=_;rw[hx];exact n
 rw[j];exact i
theorem Wq.lS {f:FuncId}{a:List Value}{R1:Go.Ev.Out->T OB->Nat->Prop}{k p:Value->T OB->Nat->Q}(hx:X f a=none)(h:bA P pl X (aX P pl (.call f a false none H nx)) nx0 H0 R1)
 (m:∀u H' nx',Ag nx0 H0 nx' H'->R1 (.ret u) H' nx'->bA P pl X (k u H' nx') nx0 H0 R) (hp:∀u H' nx',Ag nx0 H0 nx' H'->R1 (.j_ u) H' nx'->bA P pl X (p u H' nx') nx0 H0 R):bA P pl X (dm (.call f a false none H nx) k p) nx0 H0 R:=by
 obtain⟨o,H1,aI,j,c,n⟩:=h;have l:F P pl X (.call f a false none H nx)=some ⟨o,false,H1,aI⟩:=by
  rw[tS];show @gm Value (λ_=>Option Rt) _ (λv=>some ⟨.ret v,false,H,nx⟩) (X f a)=_;rw[hx];exact n
 cases o with
 | ret u=>
   obtain⟨v,d,b,i,g,e⟩:=m u H1 aI j c;refine⟨v,d,b,i,g,?_⟩;show aw (F P pl X (.call f a false none H nx)) (λr=>(match r.o with | .ret v=>k v r.H r.nx | .j_ v=>p v r.H r.nx:Q).run (F P pl X)) none=_;rw[l];exact e
 | j_ u=>
   obtain⟨v,d,b,i,g,e⟩:=hp u H1 aI j c;refine⟨v,d,b,i,g,?_⟩;show aw (F P pl X (.call f a false none H nx)) (λr=>(match r.o with | .ret v=>k v r.H r.nx | .j_ v=>p v r.H r.nx:Q).run (F P pl X)) none=_;rw[l];exact e
theorem Wq.Bu {f:FuncId}{a:List Value}{k p:Value->T OB->Nat->Q}(hx:X f a=none)(h:Wq P pl X (aX P pl (.call f a false none H nx)) nx0 H0 u)
 (d:∀H' nx',Ag nx0 H0 nx' H'->bA P pl X (k u H' nx') nx0 H0 R):bA P pl X (dm (.call f a false none H nx) k p) nx0 H0 R:=
 Wq.qL hx h λu' H' nx' c b=>by subst b;exact d H' nx' c
theorem X2 {t e:TypeId}{x:Value}{k:Value->T OB->Nat->Q}(a:P.underlying t=some (.slice e)):jw P t x H nx k=gD P t x H nx k:=by
 unfold gD;rw[a]
theorem Sp (ts:Array TypeId)(t:TypeId)(a b:Int):nk P .max ts t (some [.int .i64 a,.int .i64 b])=some (.int .i64 (if b>a then b else a)):=by
 show(bif true&&(true&&true)then xi (dW P (builtin .max ts t #[] ⟨[.int .i64 a,.int .i64 b]⟩))else none)=_;have e:dW P (builtin .max ts t #[] ⟨[.int .i64 a,.int .i64 b]⟩)=some (.value (.int .i64 (if b>a then b else a))):=by
  simp only[builtin,Builtin.max_];simp[cB,Builtin.max2];rfl
 rw[e];show(xf (.int .i64 (if b>a then b else a)) λv=>bif flat v then some v else none)=_;rw[nB];rfl
theorem Wq.NC {e t:TypeId}{l:List Value}{s:Nat}{x:Value}{k:T OB->Nat->Q}(d:dD P e=some l)(g:bT P t=some s)(m:l.length=s)(hx:x.cells.toList.length=s)(a:x.cells.toList.all aC=true)
 (h:Ag nx0 H0 nx H) (j:∀H' nx',Ag nx0 H0 nx' H'->nx<=nx'->(∀b l e,b<nx->dO H b l e->dO H' b l e)->bA P pl X (k H' nx') nx0 H0 R):bA P pl X (bU (eN P H nx e) λp H nx=>sx P H nx t (some p) x k) nx0 H0 R:=by
 rw[nH d];have o:(Ev.set H (bits nx) (some (fR l e))).get (bits nx)=some (fR l e):=by rw[get_at,if_pos rfl]
 have i:sx P (Ev.set H (bits nx) (some (fR l e))) (nx+1) t (some (nY nx)) x k=k (Ev.set (Ev.set H (bits nx) (some (fR l e))) (bits nx) (some .dead)) (nx+1+1):=by
  show rf ((Ev.set H (bits nx) (some (fR l e))).get (bits nx)) (λn _ _=>aw (bT P t) (λs=>bif ay 0 0&&(ay n s&&(ay x.cells.toList.length s&&x.cells.toList.all aC))then
   fQ (bits nx) (Ev.set H (bits nx) (some (fR l e))) (some .dead) λH=>Ev.eF (cS (nx+1)) λn=>k H n else .bad) .bad)=_
  rw[o];show aw (bT P t) (λs=>bif ay 0 0&&(ay l.length s&&(ay x.cells.toList.length s&&x.cells.toList.all aC))then
   fQ (bits nx) (Ev.set H (bits nx) (some (fR l e))) (some .dead) λH=>Ev.eF (cS (nx+1)) λn=>k H n else .bad) .bad=_
  rw[g,aZ,m,hx,a,bQ,bW];have c:ay s s=true:=cm s;rw[c];rfl
 rw[i];exact j _ _ ((((h.set h.1 _).succ).set h.1 _).succ) (by omega) λb l e hb hi=>(hi.other (by omega) _).other (by omega) _
end
end
end Go.Ev
namespace Go.Proofs.YthjhonhhbddhkaaGreatDoor
open Go.Ev Go.RowKit
noncomputable section
set_option maxRecDepth 100000
set_option linter.unusedVariables false
set_option linter.unusedSimpArgs false
set_option maxHeartbeats 8000000
@[simp] theorem Iq (a b c2 c3:Value):aq P 31 (some (ah (.agg ⟨[a,b,c2,c3]⟩))) 0=aw (bif aC a then some a else none) (λx=>some (ah x)) none:=by kernel_rfl
@[simp] theorem Ir (b a c2 c3:Value):aq P 31 (some (ah (.agg ⟨[b,a,c2,c3]⟩))) 1=aw (bif aC a then some a else none) (λx=>some (ah x)) none:=by kernel_rfl
@[simp] theorem Is (a b c2 c3:Value):aq P 31 (some (ah (.agg ⟨[a,b,c2,c3]⟩))) 2=aw (bif aC c2 then some c2 else none) (λx=>some (ah x)) none:=by kernel_rfl
@[simp] theorem It (a b c2 c3:Value):aq P 31 (some (ah (.agg ⟨[a,b,c2,c3]⟩))) 3=aw (bif aC c3 then some c3 else none) (λx=>some (ah x)) none:=by kernel_rfl
@[simp] theorem Iu (a b c2 c3 c d:Value):aq P 44 (some (ah (.agg ⟨[a,b,c2,c3,c,d]⟩))) 0=aw (bif aC a then some a else none) (λx=>some (ah x)) none:=by kernel_rfl
@[simp] theorem Iv (b a c2 c3 c d:Value):aq P 44 (some (ah (.agg ⟨[b,a,c2,c3,c,d]⟩))) 1=aw (bif aC a then some a else none) (λx=>some (ah x)) none:=by kernel_rfl
@[simp] theorem Iw (a b c2 c3 c d:Value):aq P 44 (some (ah (.agg ⟨[a,b,c2,c3,c,d]⟩))) 2=aw (bif aC c2 then some c2 else none) (λx=>some (ah x)) none:=by kernel_rfl
@[simp] theorem Ix (a b c2 c3 c d:Value):aq P 44 (some (ah (.agg ⟨[a,b,c2,c3,c,d]⟩))) 3=aw (bif aC c3 then some c3 else none) (λx=>some (ah x)) none:=by kernel_rfl
@[simp] theorem Iy (b c c2 c3 a d:Value):aq P 44 (some (ah (.agg ⟨[b,c,c2,c3,a,d]⟩))) 4=aw (bif aC a then some a else none) (λx=>some (ah x)) none:=by kernel_rfl
@[simp] theorem Iz (b c c2 c3 d a:Value):aq P 44 (some (ah (.agg ⟨[b,c,c2,c3,d,a]⟩))) 5=aw (bif aC a then some a else none) (λx=>some (ah x)) none:=by kernel_rfl
@[simp] theorem IA (a b c2 c3:Value):aq P 47 (some (ah (.agg ⟨[a,b,c2,c3]⟩))) 0=aw (bif aC a then some a else none) (λx=>some (ah x)) none:=by kernel_rfl
@[simp] theorem IB (b a c2 c3:Value):aq P 47 (some (ah (.agg ⟨[b,a,c2,c3]⟩))) 1=aw (bif aC a then some a else none) (λx=>some (ah x)) none:=by kernel_rfl
@[simp] theorem IC (a b c2 c3:Value):aq P 47 (some (ah (.agg ⟨[a,b,c2,c3]⟩))) 2=aw (bif aC c2 then some c2 else none) (λx=>some (ah x)) none:=by kernel_rfl
@[simp] theorem ID (a b c2 c3:Value):aq P 47 (some (ah (.agg ⟨[a,b,c2,c3]⟩))) 3=aw (bif aC c3 then some c3 else none) (λx=>some (ah x)) none:=by kernel_rfl
@[simp] theorem IE (a b c2:Value):aq P 52 (some (ah (.agg ⟨[a,b,c2]⟩))) 0=aw (bif aC a then some a else none) (λx=>some (ah x)) none:=by kernel_rfl
@[simp] theorem IF (b a c2:Value):aq P 52 (some (ah (.agg ⟨[b,a,c2]⟩))) 1=aw (bif aC a then some a else none) (λx=>some (ah x)) none:=by kernel_rfl
@[simp] theorem IG (a b c2:Value):aq P 52 (some (ah (.agg ⟨[a,b,c2]⟩))) 2=aw (bif aC c2 then some c2 else none) (λx=>some (ah x)) none:=by kernel_rfl
@[simp] theorem IH (a b:Value):aq P 55 (some (ah (.agg ⟨[a,b]⟩))) 0=aw (bif aC a then some a else none) (λx=>some (ah x)) none:=by kernel_rfl
@[simp] theorem II (b a:Value):aq P 55 (some (ah (.agg ⟨[b,a]⟩))) 1=aw (bif aC a then some a else none) (λx=>some (ah x)) none:=by kernel_rfl
@[simp] theorem IJ (a m c2 c3 k l n j o c9 g b h c d e i:Value):aq P 57 (some (ah (.agg ⟨[a,m,c2,c3,k,l,n,j,o,c9,g,b,h,c,d,e,i]⟩))) 0=aw (bif aC a then some a else none) (λx=>some (ah x)) none:=by kernel_rfl
@[simp] theorem IK (k j c2 c3 i m n l o c9 e a g b c d h:Value):aq P 57 (some (ah (.agg ⟨[k,j,c2,c3,i,m,n,l,o,c9,e,a,g,b,c,d,h]⟩))) 1=some (ah (.agg ⟨[j,c2,c3,i]⟩)):=by kernel_rfl
@[simp] theorem IL (m o c2 c3 n j k i l c9 a b g c d e h:Value):aq P 57 (some (ah (.agg ⟨[m,o,c2,c3,n,j,k,i,l,c9,a,b,g,c,d,e,h]⟩))) 2=some (ah (.agg ⟨[j,k,i,l,c9,a]⟩)):=by kernel_rfl
@[simp] theorem IM (i m c2 c3 k l n j o c9 e a g b c d h:Value):aq P 57 (some (ah (.agg ⟨[i,m,c2,c3,k,l,n,j,o,c9,e,a,g,b,c,d,h]⟩))) 3=aw (bif aC a then some a else none) (λx=>some (ah x)) none:=by kernel_rfl
@[simp] theorem IN (i m c2 c3 k l n j o c9 g d c a b e h:Value):aq P 57 (some (ah (.agg ⟨[i,m,c2,c3,k,l,n,j,o,c9,g,d,c,a,b,e,h]⟩))) 4=some (ah (.agg ⟨[c,a,b]⟩)):=by kernel_rfl
@[simp] theorem IP (i m c2 c3 k l n j o c9 g c h d e a b:Value):aq P 57 (some (ah (.agg ⟨[i,m,c2,c3,k,l,n,j,o,c9,g,c,h,d,e,a,b]⟩))) 5=some (ah (.agg ⟨[a,b]⟩)):=by kernel_rfl
@[simp] theorem IQ (a b c2 c3 g c d e:Value):aq P 65 (some (ah (.agg ⟨[a,b,c2,c3,g,c,d,e]⟩))) 0=aw (bif aC a then some a else none) (λx=>some (ah x)) none:=by kernel_rfl
@[simp] theorem IS (b a c2 c3 g c d e:Value):aq P 65 (some (ah (.agg ⟨[b,a,c2,c3,g,c,d,e]⟩))) 1=aw (bif aC a then some a else none) (λx=>some (ah x)) none:=by kernel_rfl
@[simp] theorem IT (e g c2 c3 d a b c:Value):aq P 65 (some (ah (.agg ⟨[e,g,c2,c3,d,a,b,c]⟩))) 2=some (ah (.agg ⟨[c2,c3,d,a,b,c]⟩)):=by kernel_rfl
@[simp] theorem IU (a:Value):aq P 69 (some (ah (.agg ⟨[a]⟩))) 0=aw (bif aC a then some a else none) (λx=>some (ah x)) none:=by kernel_rfl
@[simp] theorem IV (a b:Value):aq P 73 (some (ah (.agg ⟨[a,b]⟩))) 0=aw (bif aC a then some a else none) (λx=>some (ah x)) none:=by kernel_rfl
@[simp] theorem IW (b a:Value):aq P 73 (some (ah (.agg ⟨[b,a]⟩))) 1=aw (bif aC a then some a else none) (λx=>some (ah x)) none:=by kernel_rfl
@[simp] theorem IX (a b c2 c3:Value):aq P 77 (some (ah (.agg ⟨[a,b,c2,c3]⟩))) 0=aw (bif aC a then some a else none) (λx=>some (ah x)) none:=by kernel_rfl
@[simp] theorem IY (b a c2 c3:Value):aq P 77 (some (ah (.agg ⟨[b,a,c2,c3]⟩))) 1=aw (bif aC a then some a else none) (λx=>some (ah x)) none:=by kernel_rfl
@[simp] theorem IZ (a b c2 c3:Value):aq P 77 (some (ah (.agg ⟨[a,b,c2,c3]⟩))) 2=aw (bif aC c2 then some c2 else none) (λx=>some (ah x)) none:=by kernel_rfl
@[simp] theorem I0 (a b c2 c3:Value):aq P 77 (some (ah (.agg ⟨[a,b,c2,c3]⟩))) 3=aw (bif aC c3 then some c3 else none) (λx=>some (ah x)) none:=by kernel_rfl
@[simp] theorem I1 (a b:Value):aq P 95 (some (ah (.agg ⟨[a,b]⟩))) 0=aw (bif aC a then some a else none) (λx=>some (ah x)) none:=by kernel_rfl
@[simp] theorem I2 (b a:Value):aq P 95 (some (ah (.agg ⟨[b,a]⟩))) 1=aw (bif aC a then some a else none) (λx=>some (ah x)) none:=by kernel_rfl
@[simp] theorem EH (a b:Value):aq P 116 (some (ah (.agg ⟨[a,b]⟩))) 0=aw (bif aC a then some a else none) (λx=>some (ah x)) none:=by kernel_rfl
@[simp] theorem EJ (b a:Value):aq P 116 (some (ah (.agg ⟨[b,a]⟩))) 1=aw (bif aC a then some a else none) (λx=>some (ah x)) none:=by kernel_rfl
@[simp] theorem EK (a b c2:Value):aq P 138 (some (ah (.agg ⟨[a,b,c2]⟩))) 0=aw (bif aC a then some a else none) (λx=>some (ah x)) none:=by kernel_rfl
@[simp] theorem EL (b a c2:Value):aq P 138 (some (ah (.agg ⟨[b,a,c2]⟩))) 1=aw (bif aC a then some a else none) (λx=>some (ah x)) none:=by kernel_rfl
@[simp] theorem EM (a b c2:Value):aq P 138 (some (ah (.agg ⟨[a,b,c2]⟩))) 2=aw (bif aC c2 then some c2 else none) (λx=>some (ah x)) none:=by kernel_rfl
@[simp] theorem EN (a b:Value):aq P 194 (some (ah (.agg ⟨[a,b]⟩))) 0=aw (bif aC a then some a else none) (λx=>some (ah x)) none:=by kernel_rfl
@[simp] theorem EO (b a:Value):aq P 194 (some (ah (.agg ⟨[b,a]⟩))) 1=aw (bif aC a then some a else none) (λx=>some (ah x)) none:=by kernel_rfl
@[simp] theorem I3 (b:Nat):aq P 31 (some (.pointer (some ⟨b,0,none⟩))) 0=some (.pointer (some ⟨b,0,none⟩)):=by kernel_rfl
@[simp] theorem I4 (b:Nat):aq P 31 (some (.pointer (some ⟨b,0,none⟩))) 1=some (.pointer (some ⟨b,1,none⟩)):=by kernel_rfl
@[simp] theorem I5 (b:Nat):aq P 31 (some (.pointer (some ⟨b,0,none⟩))) 2=some (.pointer (some ⟨b,2,none⟩)):=by kernel_rfl
@[simp] theorem I6 (b:Nat):aq P 31 (some (.pointer (some ⟨b,0,none⟩))) 3=some (.pointer (some ⟨b,3,none⟩)):=by kernel_rfl
@[simp] theorem Bv (b:Nat):aq P 44 (some (.pointer (some ⟨b,0,none⟩))) 0=some (.pointer (some ⟨b,0,none⟩)):=by kernel_rfl
@[simp] theorem vE (b:Nat):aq P 44 (some (.pointer (some ⟨b,0,none⟩))) 1=some (.pointer (some ⟨b,1,none⟩)):=by kernel_rfl
@[simp] theorem sC (b:Nat):aq P 44 (some (.pointer (some ⟨b,0,none⟩))) 2=some (.pointer (some ⟨b,2,none⟩)):=by kernel_rfl
@[simp] theorem vF (b:Nat):aq P 44 (some (.pointer (some ⟨b,0,none⟩))) 3=some (.pointer (some ⟨b,3,none⟩)):=by kernel_rfl
@[simp] theorem vG (b:Nat):aq P 44 (some (.pointer (some ⟨b,0,none⟩))) 4=some (.pointer (some ⟨b,4,none⟩)):=by kernel_rfl
@[simp] theorem vH (b:Nat):aq P 44 (some (.pointer (some ⟨b,0,none⟩))) 5=some (.pointer (some ⟨b,5,none⟩)):=by kernel_rfl
@[simp] theorem vI (b:Nat):aq P 47 (some (.pointer (some ⟨b,0,none⟩))) 0=some (.pointer (some ⟨b,0,none⟩)):=by kernel_rfl
@[simp] theorem mq (b:Nat):aq P 47 (some (.pointer (some ⟨b,0,none⟩))) 1=some (.pointer (some ⟨b,1,none⟩)):=by kernel_rfl
@[simp] theorem p5 (b:Nat):aq P 47 (some (.pointer (some ⟨b,0,none⟩))) 2=some (.pointer (some ⟨b,2,none⟩)):=by kernel_rfl
@[simp] theorem sD (b:Nat):aq P 47 (some (.pointer (some ⟨b,0,none⟩))) 3=some (.pointer (some ⟨b,3,none⟩)):=by kernel_rfl
@[simp] theorem I7 (b:Nat):aq P 52 (some (.pointer (some ⟨b,0,none⟩))) 0=some (.pointer (some ⟨b,0,none⟩)):=by kernel_rfl
@[simp] theorem I8 (b:Nat):aq P 52 (some (.pointer (some ⟨b,0,none⟩))) 1=some (.pointer (some ⟨b,1,none⟩)):=by kernel_rfl
@[simp] theorem I9 (b:Nat):aq P 52 (some (.pointer (some ⟨b,0,none⟩))) 2=some (.pointer (some ⟨b,2,none⟩)):=by kernel_rfl
@[simp] theorem I_ (b:Nat):aq P 55 (some (.pointer (some ⟨b,0,none⟩))) 0=some (.pointer (some ⟨b,0,none⟩)):=by kernel_rfl
@[simp] theorem Ja (b:Nat):aq P 55 (some (.pointer (some ⟨b,0,none⟩))) 1=some (.pointer (some ⟨b,1,none⟩)):=by kernel_rfl
@[simp] theorem Bw (b:Nat):aq P 57 (some (.pointer (some ⟨b,0,none⟩))) 0=some (.pointer (some ⟨b,0,none⟩)):=by kernel_rfl
@[simp] theorem By (b:Nat):aq P 57 (some (.pointer (some ⟨b,0,none⟩))) 1=some (.pointer (some ⟨b,1,none⟩)):=by kernel_rfl
@[simp] theorem vJ (b:Nat):aq P 57 (some (.pointer (some ⟨b,0,none⟩))) 2=some (.pointer (some ⟨b,5,none⟩)):=by kernel_rfl
@[simp] theorem sE (b:Nat):aq P 57 (some (.pointer (some ⟨b,0,none⟩))) 3=some (.pointer (some ⟨b,11,none⟩)):=by kernel_rfl
@[simp] theorem Bz (b:Nat):aq P 57 (some (.pointer (some ⟨b,0,none⟩))) 4=some (.pointer (some ⟨b,12,none⟩)):=by kernel_rfl
@[simp] theorem BA (b:Nat):aq P 57 (some (.pointer (some ⟨b,0,none⟩))) 5=some (.pointer (some ⟨b,15,none⟩)):=by kernel_rfl
@[simp] theorem BB (b:Nat):aq P 65 (some (.pointer (some ⟨b,0,none⟩))) 0=some (.pointer (some ⟨b,0,none⟩)):=by kernel_rfl
@[simp] theorem BC (b:Nat):aq P 65 (some (.pointer (some ⟨b,0,none⟩))) 1=some (.pointer (some ⟨b,1,none⟩)):=by kernel_rfl
@[simp] theorem BD (b:Nat):aq P 65 (some (.pointer (some ⟨b,0,none⟩))) 2=some (.pointer (some ⟨b,2,none⟩)):=by kernel_rfl
@[simp] theorem Jb (b:Nat):aq P 69 (some (.pointer (some ⟨b,0,none⟩))) 0=some (.pointer (some ⟨b,0,none⟩)):=by kernel_rfl
@[simp] theorem Jc (b:Nat):aq P 73 (some (.pointer (some ⟨b,0,none⟩))) 0=some (.pointer (some ⟨b,0,none⟩)):=by kernel_rfl
@[simp] theorem Jd (b:Nat):aq P 73 (some (.pointer (some ⟨b,0,none⟩))) 1=some (.pointer (some ⟨b,1,none⟩)):=by kernel_rfl
@[simp] theorem Je (b:Nat):aq P 77 (some (.pointer (some ⟨b,0,none⟩))) 0=some (.pointer (some ⟨b,0,none⟩)):=by kernel_rfl
@[simp] theorem Jf (b:Nat):aq P 77 (some (.pointer (some ⟨b,0,none⟩))) 1=some (.pointer (some ⟨b,1,none⟩)):=by kernel_rfl
@[simp] theorem Jg (b:Nat):aq P 77 (some (.pointer (some ⟨b,0,none⟩))) 2=some (.pointer (some ⟨b,2,none⟩)):=by kernel_rfl
@[simp] theorem Jh (b:Nat):aq P 77 (some (.pointer (some ⟨b,0,none⟩))) 3=some (.pointer (some ⟨b,3,none⟩)):=by kernel_rfl
@[simp] theorem Ji (b:Nat):aq P 95 (some (.pointer (some ⟨b,0,none⟩))) 0=some (.pointer (some ⟨b,0,none⟩)):=by kernel_rfl
@[simp] theorem Jj (b:Nat):aq P 95 (some (.pointer (some ⟨b,0,none⟩))) 1=some (.pointer (some ⟨b,1,none⟩)):=by kernel_rfl
@[simp] theorem sF (b:Nat):aq P 116 (some (.pointer (some ⟨b,0,none⟩))) 0=some (.pointer (some ⟨b,0,none⟩)):=by kernel_rfl
@[simp] theorem jb (b:Nat):aq P 116 (some (.pointer (some ⟨b,0,none⟩))) 1=some (.pointer (some ⟨b,1,none⟩)):=by kernel_rfl
@[simp] theorem EP (b:Nat):aq P 138 (some (.pointer (some ⟨b,0,none⟩))) 0=some (.pointer (some ⟨b,0,none⟩)):=by kernel_rfl
@[simp] theorem ER (b:Nat):aq P 138 (some (.pointer (some ⟨b,0,none⟩))) 1=some (.pointer (some ⟨b,1,none⟩)):=by kernel_rfl
@[simp] theorem ES (b:Nat):aq P 138 (some (.pointer (some ⟨b,0,none⟩))) 2=some (.pointer (some ⟨b,2,none⟩)):=by kernel_rfl
@[simp] theorem ET (b:Nat):aq P 194 (some (.pointer (some ⟨b,0,none⟩))) 0=some (.pointer (some ⟨b,0,none⟩)):=by kernel_rfl
@[simp] theorem EU (b:Nat):aq P 194 (some (.pointer (some ⟨b,0,none⟩))) 1=some (.pointer (some ⟨b,1,none⟩)):=by kernel_rfl
theorem ND (b o:Nat):aq P 55 (some (.pointer (some ⟨b,o,none⟩))) 1=some (.pointer (some ⟨b,o+1,none⟩)):=NA (by kernel_rfl)
@[simp] theorem Jl (a b c2 c3:Value):rdField P 31 (some (.agg ⟨[a,b,c2,c3]⟩)) 0=some a:=by kernel_rfl
@[simp] theorem Jm (b a c2 c3:Value):rdField P 31 (some (.agg ⟨[b,a,c2,c3]⟩)) 1=some a:=by kernel_rfl
@[simp] theorem Jn (a b c2 c3:Value):rdField P 31 (some (.agg ⟨[a,b,c2,c3]⟩)) 2=some c2:=by kernel_rfl
@[simp] theorem Jo (a b c2 c3:Value):rdField P 31 (some (.agg ⟨[a,b,c2,c3]⟩)) 3=some c3:=by kernel_rfl
@[simp] theorem aa0 (H:T OB) (u:Value):aA P H 2 (some (ah u))=zA (some false) (some 1) u:=by kernel_rfl
@[simp] theorem aa1 (H:T OB) (u:Value):aA P H 3 (some (ah u))=zA (some false) (some 1) u:=by kernel_rfl
@[simp] theorem aa2 (H:T OB) (u:Value):aA P H 4 (some (ah u))=zA (some false) (some 1) u:=by kernel_rfl
@[simp] theorem aa3 (H:T OB) (u:Value):aA P H 9 (some (ah u))=zA (some false) (some 1) u:=by kernel_rfl
@[simp] theorem VV (H:T OB) (u:Value):aA P H 24 (some (ah u))=zA (some false) (some 1) u:=by kernel_rfl
@[simp] theorem VW (H:T OB) (u:Value):aA P H 25 (some (ah u))=zA (some false) (some 1) u:=by kernel_rfl
@[simp] theorem VX (H:T OB) (u:Value):aA P H 29 (some (ah u))=zA (some false) (some 1) u:=by kernel_rfl
@[simp] theorem VY (H:T OB) (a b c2 c3:Value):aA P H 31 (some (ah (.agg ⟨[a,b,c2,c3]⟩)))=some (.agg ⟨[a,b,c2,c3]⟩):=by kernel_rfl
@[simp] theorem VZ (H:T OB) (u:Value):aA P H 41 (some (ah u))=zA (some false) (some 1) u:=by kernel_rfl
@[simp] theorem V0 (H:T OB) (u:Value):aA P H 42 (some (ah u))=zA (some false) (some 1) u:=by kernel_rfl
@[simp] theorem NF (H:T OB) (a b c2 c3 c d:Value):aA P H 44 (some (ah (.agg ⟨[a,b,c2,c3,c,d]⟩)))=some (.agg ⟨[a,b,c2,c3,c,d]⟩):=by kernel_rfl
@[simp] theorem NG (H:T OB) (a b c2 c3:Value):aA P H 47 (some (ah (.agg ⟨[a,b,c2,c3]⟩)))=some (.agg ⟨[a,b,c2,c3]⟩):=by kernel_rfl
@[simp] theorem V1 (H:T OB) (u:Value):aA P H 48 (some (ah u))=zA (some false) (some 1) u:=by kernel_rfl
@[simp] theorem V2 (H:T OB) (u:Value):aA P H 49 (some (ah u))=zA (some false) (some 1) u:=by kernel_rfl
@[simp] theorem V3 (H:T OB) (u:Value):aA P H 50 (some (ah u))=zA (some false) (some 1) u:=by kernel_rfl
@[simp] theorem V4 (H:T OB) (a b c2:Value):aA P H 52 (some (ah (.agg ⟨[a,b,c2]⟩)))=some (.agg ⟨[a,b,c2]⟩):=by kernel_rfl
@[simp] theorem V5 (H:T OB) (u:Value):aA P H 53 (some (ah u))=zA (some false) (some 1) u:=by kernel_rfl
@[simp] theorem V6 (H:T OB) (a b:Value):aA P H 55 (some (ah (.agg ⟨[a,b]⟩)))=some (.agg ⟨[a,b]⟩):=by kernel_rfl
@[simp] theorem NH (H:T OB) (i m c2 c3 k l n j o c9 e a g b c d h:Value):aA P H 57 (some (ah (.agg ⟨[i,m,c2,c3,k,l,n,j,o,c9,e,a,g,b,c,d,h]⟩)))=some (.agg ⟨[i,m,c2,c3,k,l,n,j,o,c9,e,a,g,b,c,d,h]⟩):=by kernel_rfl
@[simp] theorem V7 (H:T OB) (a b c2 c3 e g c d:Value):aA P H 65 (some (ah (.agg ⟨[a,b,c2,c3,e,g,c,d]⟩)))=some (.agg ⟨[a,b,c2,c3,e,g,c,d]⟩):=by kernel_rfl
@[simp] theorem V8 (H:T OB) (n t c2 c3 p q s o x c9 g a j b d e k c h m i l:Value):aA P H 99 (some (ah (.agg ⟨[n,t,c2,c3,p,q,s,o,x,c9,g,a,j,b,d,e,k,c,h,m,i,l]⟩)))=some (.agg ⟨[n,t,c2,c3,p,q,s,o,x,c9,g,a,j,b,d,e,k,c,h,m,i,l]⟩):=by kernel_rfl
@[simp] theorem NI (H:T OB) (a b c2:Value):aA P H 138 (some (ah (.agg ⟨[a,b,c2]⟩)))=some (.agg ⟨[a,b,c2]⟩):=by kernel_rfl
@[simp] theorem NJ (H:T OB) (a b c2 c3 d e c:Value):aA P H 182 (some (ah (.agg ⟨[a,b,c2,c3,d,e,c]⟩)))=some (.agg ⟨[a,b,c2,c3,d,e,c]⟩):=by kernel_rfl
theorem sG {es:List Value}{i:Nat}{u:Value}(h:es[i]? = some u)(k:IntKind):cq P 24 (some (bM 17 es)) (some (.int k (i:Int)))=some (ah u):=h_ (by kernel_rfl) h k
theorem NK {es:List Value}{i:Nat}{u:Value}(h:es[i]? = some u)(k:IntKind):cq P 29 (some (bM 4 es)) (some (.int k (i:Int)))=some (ah u):=h_ (by kernel_rfl) h k
theorem kE {es:List Value}{i:Nat}{u:Value}(h:es[i]? = some u)(k:IntKind):cq P 41 (some (bM 6 es)) (some (.int k (i:Int)))=some (ah u):=h_ (by kernel_rfl) h k
theorem jI {es:List Value}{i:Nat}{u:Value}(h:es[i]? = some u)(k:IntKind):cq P 42 (some (bM 4 es)) (some (.int k (i:Int)))=some (ah u):=h_ (by kernel_rfl) h k
theorem oS {es:List Value}{i:Nat}{u:Value}(h:es[i]? = some u)(k:IntKind):cq P 48 (some (bM 8 es)) (some (.int k (i:Int)))=some (ah u):=h_ (by kernel_rfl) h k
theorem yr {es:List Value}{i:Nat}{u:Value}(h:es[i]? = some u)(k:IntKind):cq P 49 (some (bM 1 es)) (some (.int k (i:Int)))=some (ah u):=h_ (by kernel_rfl) h k
theorem uT {es:List Value}{i:Nat}{u:Value}(h:es[i]? = some u)(k:IntKind):cq P 50 (some (bM 2 es)) (some (.int k (i:Int)))=some (ah u):=h_ (by kernel_rfl) h k
theorem mr {es:List Value}{i:Nat}{u:Value}(h:es[i]? = some u)(k:IntKind):cq P 53 (some (bM 3 es)) (some (.int k (i:Int)))=some (ah u):=h_ (by kernel_rfl) h k
theorem NL {b off len c i:Nat}(h:i<len)(k:IntKind):cq P 49 (some (.slice (some ⟨b,off,none⟩) len c)) (some (.int k (i:Int)))=some (.pointer (some ⟨b,off+i*1,none⟩)):=yp (by kernel_rfl) h k
theorem jT:P.underlying 24=some (.slice 57):=by kernel_rfl
theorem kL:P.underlying 29=some (.slice 31):=by kernel_rfl
theorem jU:P.underlying 41=some (.slice 44):=by kernel_rfl
theorem iN:P.underlying 42=some (.slice 47):=by kernel_rfl
theorem yu:P.underlying 48=some (.slice 65):=by kernel_rfl
theorem mI:P.underlying 49=some (.slice 9):=by kernel_rfl
theorem tT:P.underlying 50=some (.slice 55):=by kernel_rfl
theorem kh:P.underlying 53=some (.slice 138):=by kernel_rfl
theorem dK:P.underlying 120=some (.slice 5):=by kernel_rfl
@[simp] theorem V9 (s:ByteArray) (a:TypeId):e_ P #[9] a (some [.string s])=some (.int .i64 (s.size:Int)):=aV s (by kernel_rfl)
@[simp] theorem GG (s:Nat) (es:List Value) (a:TypeId):e_ P #[24] a (some [bM s es])=some (.int .i64 (es.length:Int)):=jo s es (by kernel_rfl)
@[simp] theorem Jp (b:TypeId) (a:Addr) (n c:Nat):e_ P #[24] b (some [.slice (some a) n c])=some (.int .i64 (n:Int)):=jH (by kernel_rfl)
@[simp] theorem Jq (a:TypeId):e_ P #[24] a (some [.slice none 0 0])=some (.int .i64 0):=by kernel_rfl
@[simp] theorem NM (s:Nat) (es:List Value) (a:TypeId):e_ P #[29] a (some [bM s es])=some (.int .i64 (es.length:Int)):=jo s es (by kernel_rfl)
@[simp] theorem Jr (b:TypeId) (a:Addr) (n c:Nat):e_ P #[29] b (some [.slice (some a) n c])=some (.int .i64 (n:Int)):=jH (by kernel_rfl)
@[simp] theorem Js (a:TypeId):e_ P #[29] a (some [.slice none 0 0])=some (.int .i64 0):=by kernel_rfl
@[simp] theorem NN (s:Nat) (es:List Value) (a:TypeId):e_ P #[41] a (some [bM s es])=some (.int .i64 (es.length:Int)):=jo s es (by kernel_rfl)
@[simp] theorem Jt (b:TypeId) (a:Addr) (n c:Nat):e_ P #[41] b (some [.slice (some a) n c])=some (.int .i64 (n:Int)):=jH (by kernel_rfl)
@[simp] theorem Ju (a:TypeId):e_ P #[41] a (some [.slice none 0 0])=some (.int .i64 0):=by kernel_rfl
@[simp] theorem NO (s:Nat) (es:List Value) (a:TypeId):e_ P #[42] a (some [bM s es])=some (.int .i64 (es.length:Int)):=jo s es (by kernel_rfl)
@[simp] theorem Jv (b:TypeId) (a:Addr) (n c:Nat):e_ P #[42] b (some [.slice (some a) n c])=some (.int .i64 (n:Int)):=jH (by kernel_rfl)
@[simp] theorem Jw (a:TypeId):e_ P #[42] a (some [.slice none 0 0])=some (.int .i64 0):=by kernel_rfl
@[simp] theorem BE (s:Nat) (es:List Value) (a:TypeId):e_ P #[48] a (some [bM s es])=some (.int .i64 (es.length:Int)):=jo s es (by kernel_rfl)
@[simp] theorem Jx (b:TypeId) (a:Addr) (n c:Nat):e_ P #[48] b (some [.slice (some a) n c])=some (.int .i64 (n:Int)):=jH (by kernel_rfl)
@[simp] theorem BF (a:TypeId):e_ P #[48] a (some [.slice none 0 0])=some (.int .i64 0):=by kernel_rfl
@[simp] theorem NP (s:Nat) (es:List Value) (a:TypeId):e_ P #[49] a (some [bM s es])=some (.int .i64 (es.length:Int)):=jo s es (by kernel_rfl)
@[simp] theorem Jy (b:TypeId) (a:Addr) (n c:Nat):e_ P #[49] b (some [.slice (some a) n c])=some (.int .i64 (n:Int)):=jH (by kernel_rfl)
@[simp] theorem Jz (a:TypeId):e_ P #[49] a (some [.slice none 0 0])=some (.int .i64 0):=by kernel_rfl
@[simp] theorem NQ (s:Nat) (es:List Value) (a:TypeId):e_ P #[50] a (some [bM s es])=some (.int .i64 (es.length:Int)):=jo s es (by kernel_rfl)
@[simp] theorem JA (b:TypeId) (a:Addr) (n c:Nat):e_ P #[50] b (some [.slice (some a) n c])=some (.int .i64 (n:Int)):=jH (by kernel_rfl)
@[simp] theorem JB (a:TypeId):e_ P #[50] a (some [.slice none 0 0])=some (.int .i64 0):=by kernel_rfl
@[simp] theorem NR (s:Nat) (es:List Value) (a:TypeId):e_ P #[53] a (some [bM s es])=some (.int .i64 (es.length:Int)):=jo s es (by kernel_rfl)
@[simp] theorem JC (b:TypeId) (a:Addr) (n c:Nat):e_ P #[53] b (some [.slice (some a) n c])=some (.int .i64 (n:Int)):=jH (by kernel_rfl)
@[simp] theorem JD (a:TypeId):e_ P #[53] a (some [.slice none 0 0])=some (.int .i64 0):=by kernel_rfl
@[simp] theorem JE (s:Nat) (es:List Value) (a:TypeId):e_ P #[120] a (some [bM s es])=some (.int .i64 (es.length:Int)):=jo s es (by kernel_rfl)
@[simp] theorem yv (b:TypeId) (a:Addr) (n c:Nat):e_ P #[120] b (some [.slice (some a) n c])=some (.int .i64 (n:Int)):=jH (by kernel_rfl)
@[simp] theorem yw (a:TypeId):e_ P #[120] a (some [.slice none 0 0])=some (.int .i64 0):=by kernel_rfl
theorem X3:dD P 3=some [(.int .i64 0)]:=by kernel_rfl
theorem Sr:dD P 24=some [(.slice none 0 0)]:=by kernel_rfl
theorem Ss:dD P 25=some [(.int .i64 0)]:=by kernel_rfl
theorem ek:dD P 31=some [(.int .i64 0),(.string ⟨⟨[]⟩⟩),(.int .i64 0),(.int .i64 0)]:=by kernel_rfl
theorem de:dD P 44=some [(.int .i64 0),(.int .i64 0),(.string ⟨⟨[]⟩⟩),(.slice none 0 0),(.slice none 0 0),(.slice none 0 0)]:=by kernel_rfl
theorem fx:dD P 47=some [(.int .i64 0),(.int .i64 0),(.string ⟨⟨[]⟩⟩),(.slice none 0 0)]:=by kernel_rfl
theorem Su:dD P 52=some [(.slice none 0 0),(.string ⟨⟨[]⟩⟩),(.slice none 0 0)]:=by kernel_rfl
theorem lB:dD P 55=some [(.string ⟨⟨[]⟩⟩),(.slice none 0 0)]:=by kernel_rfl
theorem fO:dD P 57=some [(.int .i64 0),(.int .i64 0),(.int .i64 0),(.string ⟨⟨[]⟩⟩),(.slice none 0 0),(.int .i64 0),(.int .i64 0),(.string ⟨⟨[]⟩⟩),(.slice none 0 0),(.slice none 0 0),(.slice none 0 0),(.slice none 0 0),(.slice none 0 0),(.string ⟨⟨[]⟩⟩),(.slice none 0 0),(.string ⟨⟨[]⟩⟩),(.slice none 0 0)]:=by kernel_rfl
theorem ki:dD P 65=some [(.string ⟨⟨[]⟩⟩),(.slice none 0 0),(.int .i64 0),(.int .i64 0),(.string ⟨⟨[]⟩⟩),(.slice none 0 0),(.slice none 0 0),(.slice none 0 0)]:=by kernel_rfl
theorem Sv:dD P 69=some [(.int .i64 0)]:=by kernel_rfl
theorem ff:dD P 138=some [(.int .i64 0),(.string ⟨⟨[]⟩⟩),(.slice none 0 0)]:=by kernel_rfl
theorem NS:dD P 168=some [(.int .u8 0),(.int .u8 0),(.int .u8 0),(.int .u8 0),(.int .u8 0),(.int .u8 0),(.int .u8 0),(.int .u8 0),(.int .u8 0),(.int .u8 0),(.int .u8 0),(.int .u8 0),(.int .u8 0),(.int .u8 0),(.int .u8 0),(.int .u8 0),(.int .u8 0),(.int .u8 0),(.int .u8 0),(.int .u8 0)]:=by kernel_rfl
theorem NT:dD P 194=some [(.string ⟨⟨[]⟩⟩),(.int .i64 0)]:=by kernel_rfl
theorem V_:gf P 2=some false:=by kernel_rfl
theorem sH:gf P 3=some false:=by kernel_rfl
theorem Wa:gf P 4=some false:=by kernel_rfl
theorem aa4:gf P 5=some false:=by kernel_rfl
theorem oT:gf P 9=some false:=by kernel_rfl
theorem oU:gf P 24=some false:=by kernel_rfl
theorem BG:gf P 25=some false:=by kernel_rfl
theorem GH:gf P 29=some false:=by kernel_rfl
theorem nI:gf P 31=some true:=by kernel_rfl
theorem mJ:gf P 41=some false:=by kernel_rfl
theorem lj:gf P 42=some false:=by kernel_rfl
theorem fY:gf P 44=some true:=by kernel_rfl
theorem jc:gf P 47=some true:=by kernel_rfl
theorem BH:gf P 48=some false:=by kernel_rfl
theorem BI:gf P 49=some false:=by kernel_rfl
theorem GI:gf P 50=some false:=by kernel_rfl
theorem NU:gf P 52=some true:=by kernel_rfl
theorem BJ:gf P 53=some false:=by kernel_rfl
theorem yx:gf P 55=some true:=by kernel_rfl
theorem lT:gf P 57=some true:=by kernel_rfl
theorem GJ:gf P 65=some true:=by kernel_rfl
theorem X4:gf P 99=some true:=by kernel_rfl
theorem nJ:gf P 138=some true:=by kernel_rfl
theorem Sw:gf P 182=some true:=by kernel_rfl
theorem Sx:bT P 2=some 1:=by kernel_rfl
theorem oV:bT P 3=some 1:=by kernel_rfl
theorem adD:bT P 4=some 1:=by kernel_rfl
theorem jq:bT P 5=some 1:=by kernel_rfl
theorem lU:bT P 9=some 1:=by kernel_rfl
theorem yy:bT P 24=some 1:=by kernel_rfl
theorem JF:bT P 25=some 1:=by kernel_rfl
theorem Wb:bT P 29=some 1:=by kernel_rfl
theorem fg:bT P 31=some 4:=by kernel_rfl
theorem Ay:bT P 41=some 1:=by kernel_rfl
theorem EV:bT P 42=some 1:=by kernel_rfl
theorem dE:bT P 44=some 6:=by kernel_rfl
theorem fJ:bT P 47=some 4:=by kernel_rfl
theorem Wc:bT P 48=some 1:=by kernel_rfl
theorem NV:bT P 49=some 1:=by kernel_rfl
theorem Wd:bT P 50=some 1:=by kernel_rfl
theorem NW:bT P 52=some 3:=by kernel_rfl
theorem We:bT P 53=some 1:=by kernel_rfl
theorem mX:bT P 55=some 2:=by kernel_rfl
theorem gQ:bT P 57=some 17:=by kernel_rfl
theorem oh:bT P 65=some 8:=by kernel_rfl
theorem aa5:bT P 69=some 1:=by kernel_rfl
theorem aa6:bT P 99=some 22:=by kernel_rfl
theorem fA:bT P 138=some 3:=by kernel_rfl
theorem X5:bT P 182=some 7:=by kernel_rfl
theorem X6:bT P 194=some 2:=by kernel_rfl
@[simp] theorem NX (H:T OB) (q a b:Bool):dx P H .eql 4 q (some (.bool a)) (some (.bool b))=some (.bool (a == b)):=by cases q<;>cases a<;>cases b<;>kernel_rfl
theorem cT {α:Type}(a b:α):(bif true then a else b)=a:=rfl
theorem cF {α:Type}(a b:α):(bif false then a else b)=b:=rfl
theorem eS {α:Type}(a:α):(a=a)=True:=eq_self a
theorem lN {α:Type}:([]:List α).length=0:=rfl
theorem X7 (a:TypeId)(x:Value)(k:Value->TQ)(H:T OB)(nx:Nat):pL a x k H nx=aw (aA P H a (some x)) (λz=>k z H nx) .bad:=rfl
theorem aa7 (a:BinOp)(c:TypeId)(b:Bool)(x y:Value)(k:Value->TQ):pB a c b x y k=λH nx=>aw (dx P H a c b (some x) (some y)) (λz=>k z H nx) .bad:=rfl
theorem X8 (a:BinOp)(d:TypeId)(b:Bool)(x y:Value)(A B:TQ):pT a d b x y A B=λH nx=>aw (dx P H a d b (some x) (some y)) (λz=>RO z (λc=>bK c (A H nx) (B H nx)) .bad) .bad:=rfl
theorem X9 (a:TypeId)(x:Value)(k:Value->TQ):pL a x k=λH nx=>aw (aA P H a (some x)) (λz=>k z H nx) .bad:=rfl
theorem X_ (t:TypeId)(x:Value)(n:Nat)(k:Value->TQ):pF t x n k=λH nx=>aw (aq P t (some x) n) (λz=>k z H nx) .bad:=rfl
theorem aa8 (t:TypeId)(x:Value)(n:Nat)(b:TypeId)(k:Value->TQ):pX t x n b k=λH nx=>aw (aq P t (some x) n) (λa=>aw (aA P H b (some a)) (λz=>k z H nx) .bad) .bad:=rfl
theorem aa9 (t a:TypeId)(x:Value)(k:Value->TQ):pN t a x k=λH nx=>aw (e_ P #[t] a (some [x])) (λz=>k z H nx) .bad:=rfl
theorem aba (t:TypeId)(x y:Value)(k:Value->TQ):pA t x y k=λH nx=>aw (cq P t (some x) (some y)) (λz=>k z H nx) .bad:=rfl
theorem abb (t:TypeId)(x y:Value)(k:Value->TQ):pI t x y k=λH nx=>aw (eB P t (some x) (some y)) (λz=>k z H nx) .bad:=rfl
theorem Ya (x:Value)(n:Nat)(k:Value->TQ):pE x n k=λH nx=>aw (bH (some x) n) (λz=>k z H nx) .bad:=rfl
theorem abc (x:Value)(k:Value->TQ):pY x k=λH nx=>aw (rT (some x)) (λz=>k z H nx) .bad:=rfl
theorem abd (t:TypeId)(l:List (Nat×Value))(k:Value->TQ):pD t l k=λH nx=>aw (cA P t (some l)) (λz=>k z H nx) .bad:=rfl
theorem NY (x:Value)(k:Value->TQ):jM x k=λH nx=>aw (HP P .not (some x)) (λz=>k z H nx) .bad:=rfl
theorem Yb (x:Option Value)(k:Value->TQ):pO x k=λH nx=>aw x (λz=>k z H nx) .bad:=rfl
theorem Yc (x:Value)(A B:TQ):pV x A B=λH nx=>RO x (λc=>bK c (A H nx) (B H nx)) .bad:=rfl
theorem Yd (x:Value)(k:Bool->TQ):pW x k=λH nx=>RO x (λz=>k z H nx) .bad:=rfl
theorem abe (c:Bool)(A B:TQ):pK c A B=λH nx=>bK c (A H nx) (B H nx):=rfl
theorem abf (f:FuncId)(l:List Value)(k:Value->TQ):pC f l k=λH nx=>dm (.call f l false none H nx) k jy:=rfl
theorem Ye (c:T OB->Nat->bV):pJ c=λH nx=> .jump (c H nx):=rfl
theorem Yf (v:Value):pR v=λH nx=> .ret ⟨.ret v,false,H,nx⟩:=rfl
theorem abg (t:TypeId)(v:Value)(k:Value->TQ):pZ t v k=λH nx=>dM P t v H nx k:=rfl
theorem abh (t:TypeId)(v:Value)(k:Value->TQ):pQ t v k=λH nx=>gD P t v H nx k:=rfl
theorem abi (k:TQ):pU k=λH nx=>eF (cS nx) (λnx=>k H nx):=rfl
theorem Yg (t:TypeId)(x v:Value)(k:TQ):pH t x v k=λH nx=>sx P H nx t (some x) v k:=rfl
theorem Yh (b:TypeId)(a v:Value)(k:Value->TQ):pS b a v k=λH nx=>bU (eD P H nx b (some a) (some v)) k:=rfl
theorem Yi (a:TypeId)(k:Value->TQ):pM a k=λH nx=>bU (eN P H nx a) k:=rfl
theorem abj (t:TypeId)(n:Nat)(l:List (Nat×Value))(k:Value->TQ):pG t n l k=λH nx=>bU (bC P H nx t n (some l)) k:=rfl
theorem abk (t:List TypeId)(l:List Value)(k:Value->TQ):pP t l k=λH nx=>bU (fe P H nx t (some l)) k:=rfl
theorem af:type_of% (ab @cT (ab @cF (ab @eS (ab @lN (ab @aa7 (ab @X8 (ab @X9 (ab @X_ (ab @aa8 (ab @aa9 (ab @aba (ab @abb (ab @Ya (ab @abc (ab @abd (ab @NY (ab @Yb (ab @Yc (ab @Yd (ab @abe (ab @abf (ab @Ye (ab @Yf (ab @abg (ab @abh (ab @abi (ab @Yg (ab @Yh (ab @Yi (ab @abj (ab @abk (ab @uR (ab @oR (ab @sy (ab @uS (ab @yl (ab @sA (ab @aZ (ab @Im (ab @Io (ab @ED (ab @Ip (ab @Nx (ab @EE (ab @Ao (ab @Ap (ab @Aq (ab @Ar (ab @As (ab @At (ab @Au (ab @Av (ab @Aw (ab @ym (ab @yn (ab @Bs (ab @yo (ab @nC (ab @xD (ab @cM (ab @fk (ab @Bool.not_not (ab @EG (ab @Ax (ab @yq (ab @NB (ab @cg (ab @Int.cast_ofNat_Int (ab @decide_true (ab @decide_false (ab @gO (ab @Iq (ab @Ir (ab @Is (ab @It (ab @Iu (ab @Iv (ab @Iw (ab @Ix (ab @Iy (ab @Iz (ab @IA (ab @IB (ab @IC (ab @ID (ab @IE (ab @IF (ab @IG (ab @IH (ab @II (ab @IJ (ab @IK (ab @IL (ab @IM (ab @IN (ab @IP (ab @IQ (ab @IS (ab @IT (ab @IU (ab @IV (ab @IW (ab @IX (ab @IY (ab @IZ (ab @I0 (ab @I1 (ab @I2 (ab @EH (ab @EJ (ab @EK (ab @EL (ab @EM (ab @EN (ab @EO (ab @I3 (ab @I4 (ab @I5 (ab @I6 (ab @Bv (ab @vE (ab @sC (ab @vF (ab @vG (ab @vH (ab @vI (ab @mq (ab @p5 (ab @sD (ab @I7 (ab @I8 (ab @I9 (ab @I_ (ab @Ja (ab @Bw (ab @By (ab @vJ (ab @sE (ab @Bz (ab @BA (ab @BB (ab @BC (ab @BD (ab @Jb (ab @Jc (ab @Jd (ab @Je (ab @Jf (ab @Jg (ab @Jh (ab @Ji (ab @Jj (ab @sF (ab @jb (ab @EP (ab @ER (ab @ES (ab @ET (ab @EU (ab @Jl (ab @Jm (ab @Jn (ab @Jo (ab @aa0 (ab @aa1 (ab @aa2 (ab @aa3 (ab @VV (ab @VW (ab @VX (ab @VY (ab @VZ (ab @V0 (ab @NF (ab @NG (ab @V1 (ab @V2 (ab @V3 (ab @V4 (ab @V5 (ab @V6 (ab @NH (ab @V7 (ab @V8 (ab @NI (ab @NJ (ab @V9 (ab @GG (ab @Jp (ab @Jq (ab @NM (ab @Jr (ab @Js (ab @NN (ab @Jt (ab @Ju (ab @NO (ab @Jv (ab @Jw (ab @BE (ab @Jx (ab @BF (ab @NP (ab @Jy (ab @Jz (ab @NQ (ab @JA (ab @JB (ab @NR (ab @JC (ab @JD (ab @JE (ab @yv (ab @yw @NX)))))))))))))))))))))))))))))))))))))))))))))))))))))))))))))))))))))))))))))))))))))))))))))))))))))))))))))))))))))))))))))))))))))))))))))))))))))))))))))))))))))))))))))))))))))))))))))))))))))))))))))))))))))):=ab @cT (ab @cF (ab @eS (ab @lN (ab @aa7 (ab @X8 (ab @X9 (ab @X_ (ab @aa8 (ab @aa9 (ab @aba (ab @abb (ab @Ya (ab @abc (ab @abd (ab @NY (ab @Yb (ab @Yc (ab @Yd (ab @abe (ab @abf (ab @Ye (ab @Yf (ab @abg (ab @abh (ab @abi (ab @Yg (ab @Yh (ab @Yi (ab @abj (ab @abk (ab @uR (ab @oR (ab @sy (ab @uS (ab @yl (ab @sA (ab @aZ (ab @Im (ab @Io (ab @ED (ab @Ip (ab @Nx (ab @EE (ab @Ao (ab @Ap (ab @Aq (ab @Ar (ab @As (ab @At (ab @Au (ab @Av (ab @Aw (ab @ym (ab @yn (ab @Bs (ab @yo (ab @nC (ab @xD (ab @cM (ab @fk (ab @Bool.not_not (ab @EG (ab @Ax (ab @yq (ab @NB (ab @cg (ab @Int.cast_ofNat_Int (ab @decide_true (ab @decide_false (ab @gO (ab @Iq (ab @Ir (ab @Is (ab @It (ab @Iu (ab @Iv (ab @Iw (ab @Ix (ab @Iy (ab @Iz (ab @IA (ab @IB (ab @IC (ab @ID (ab @IE (ab @IF (ab @IG (ab @IH (ab @II (ab @IJ (ab @IK (ab @IL (ab @IM (ab @IN (ab @IP (ab @IQ (ab @IS (ab @IT (ab @IU (ab @IV (ab @IW (ab @IX (ab @IY (ab @IZ (ab @I0 (ab @I1 (ab @I2 (ab @EH (ab @EJ (ab @EK (ab @EL (ab @EM (ab @EN (ab @EO (ab @I3 (ab @I4 (ab @I5 (ab @I6 (ab @Bv (ab @vE (ab @sC (ab @vF (ab @vG (ab @vH (ab @vI (ab @mq (ab @p5 (ab @sD (ab @I7 (ab @I8 (ab @I9 (ab @I_ (ab @Ja (ab @Bw (ab @By (ab @vJ (ab @sE (ab @Bz (ab @BA (ab @BB (ab @BC (ab @BD (ab @Jb (ab @Jc (ab @Jd (ab @Je (ab @Jf (ab @Jg (ab @Jh (ab @Ji (ab @Jj (ab @sF (ab @jb (ab @EP (ab @ER (ab @ES (ab @ET (ab @EU (ab @Jl (ab @Jm (ab @Jn (ab @Jo (ab @aa0 (ab @aa1 (ab @aa2 (ab @aa3 (ab @VV (ab @VW (ab @VX (ab @VY (ab @VZ (ab @V0 (ab @NF (ab @NG (ab @V1 (ab @V2 (ab @V3 (ab @V4 (ab @V5 (ab @V6 (ab @NH (ab @V7 (ab @V8 (ab @NI (ab @NJ (ab @V9 (ab @GG (ab @Jp (ab @Jq (ab @NM (ab @Jr (ab @Js (ab @NN (ab @Jt (ab @Ju (ab @NO (ab @Jv (ab @Jw (ab @BE (ab @Jx (ab @BF (ab @NP (ab @Jy (ab @Jz (ab @NQ (ab @JA (ab @JB (ab @NR (ab @JC (ab @JD (ab @JE (ab @yv (ab @yw @NX)))))))))))))))))))))))))))))))))))))))))))))))))))))))))))))))))))))))))))))))))))))))))))))))))))))))))))))))))))))))))))))))))))))))))))))))))))))))))))))))))))))))))))))))))))))))))))))))))))))))))))))))))))))
end
end Go.Proofs.YthjhonhhbddhkaaGreatDoor
