/- Texts of this claim, side by side. -/
import Derived.Test.YthjhonhhbddhkaaGreatDoorG1
import Derived.Scope
import Derived.Recover
open List renaming length_append->aj,mem_of_getElem?->ak,length_cons->ao,getElem?_eq_some_iff->ar,getElem?_eq_getElem->au,length_drop->aD,mem_cons->aG,mem_cons_of_mem->aH,all_eq_true->aM,mem_singleton->aP,getElem?_append_left->bc,append_assoc->bn,mem_map->bo,getElem?_drop->bL,getElem?_take->bR,getElem?_append_right->bZ,nil_append->cj,length_take->cC,not_mem_nil->cO,all_cons->cW,drop_zero->dq,length_singleton->dU,mem_range->eg,ext_getElem?->eE,flatMap_cons->fj,range->fB,mem_cons_self->fC,getElem?_set->gJ,filter_cons_of_pos->j7
open Bool renaming and_eq_true->ae,or_eq_true->bl,false_or->bG,not_true->cM,and_false->cU,eq_iff_iff->dk,not_eq_true'->dY
open Nat renaming ble_eq_true_of_le->av,le_refl->ax,beq->ay,ble->bj,zero_add->bN,blt->bY,beq_refl->cm,succ->cS,mod_lt->dV,lt_of_lt_of_le->eh,mul_le_mul_right->fM,le_trans->ga,add_mul->ic,add->iq,succ_mul->ir,sub_zero->iu,add_assoc->iK,le_succ->jl,le_mul_of_pos_right->j6
open Array renaming getElem?_eq_some_iff->aU,length_toList->ch,getElem?_eq_getElem->cE,getElem?_toList->dT,ext'->eU,getElem?_setIfInBounds_ne->fw,getElem?_setIfInBounds_self_of_lt->fF,replicate->iG,getD_eq_getD_getElem?->iU
open Option renaming bind_some->ba,map_some->dH
namespace Go.Ev
open Go.RowKit (Below)
noncomputable section
set_option maxRecDepth 100000
set_option linter.unusedVariables false
set_option linter.unusedSimpArgs false
section
variable {P:Program}{W w:World}{φ:fq}{H:T OB}{tm:T Value}{ρ:Operand->Value}{g:Nat->Option OB}
theorem HR.alias (hH:HR P W φ g w){e:lh}{ob:OB}(K:e.r<w.heap.size)(q:∀k ob x,g k=some ob->live ob=true->φ[k]? = some (some x)->x.r≠e.r)
 (l:e.fz=none) (D:∀(k:Nat) (x:lh) (c:Array Value),φ[k]? = some (some x)->x.fz=some c->e.r≠x.r) (C:Ea P W φ ob e w):
 HR P W (φ++[some e]) (rS g φ.length (some ob)) w where
 below:=hH.below
 gl:=hH.Se (fG φ _)
 uJ:=λk o h=>by
  simp only[aj,dU]
  by_cases t:k=φ.length
  . omega
  . rw[bP g t]at h;have:=hH.uJ k o h;omega
 tu:=λk x h=>by
  rcases dz h with h | ⟨_,h⟩
  . exact hH.tu k x h
  . cases h;exact K
 inj:=λk y E G x z h B b m A s p=>by
  rcases dz h with l | ⟨t,hx⟩
  . have L:=(ar.1 l).1;rw[bP g (by omega)]at b;rcases dz B with d | ⟨u,j⟩
    . have I:=(ar.1 d).1;rw[bP g (by omega)]at m;exact hH.inj k y E G x z l d b m A s p
    . cases j;exact absurd p (q k E x b A l)
  . cases hx;rcases dz B with d | ⟨u,j⟩
    . have I:=(ar.1 d).1;rw[bP g (by omega)]at m;exact absurd p.symm (q y G z m s d)
    . exact t.trans u.symm
 obj:=λk J x b h=>by
  rcases dz h with l | ⟨t,hx⟩
  . have L:=(ar.1 l).1;rw[bP g (by omega)]at b;exact(hH.obj k J x b l).mono (fG φ _)
  . cases hx;subst t;rw[fH]at b;cases b;exact C.mono (fG φ _)
 qH:=λk x c h n=>by
  rcases dz h with d | ⟨_,hx⟩
  . exact hH.qH k x c d n
  . cases hx;rw[l]at n;cases n
 xJ:=λk y x z c o h n B b A=>by
  rcases dz h with d | ⟨_,hx⟩
  . rcases dz B with F | ⟨_,j⟩
    . have l2:=(ar.1 F).1;rw[bP g (by omega)]at b;exact hH.xJ k y x z c o d n F b A
    . cases j;exact D k x c d n
  . cases hx;rw[l]at n;cases n
theorem HR.XQ (hH:HR P W φ g w){k n n':Nat}{t t':T Value}{el:TypeId}{e:lh}(d:g k=some (.cells n t el))(b:φ[k]? = some (some e))(hn:n'<=n)
 (q:∀i,i<n'->t'.get (bits i)=t.get (bits i)):HR P W φ (rS g k (some (.cells n' t' el))) w:=by
 obtain⟨j,⟨c,a,p,s,h4,m⟩,h⟩:=hH.obj k _ e d b;exact hH.put d rfl b hH.below rfl (λ_ _=>rfl) ⟨j,⟨c,a,p,s,by omega,λi hi v l=>m i (by omega) v (by rw[<- q i hi];exact l)⟩,h⟩
section ops
variable {o:Oper}{v:Value}{H':T OB}{nx nx':Nat}
theorem tL {w:World}{r off:Nat}{c:Array Value}{el:TypeId}{fz:Nat×Nat}(d:w.heap[r]? = some (.cells c el fz)){s:Nat}:
 ∀(j:Nat) (v:Value),((c.toList.drop off).take s)[j]? = some v->w.cell? ((⟨r,off,none⟩:Addr).add j)=some v:=λj v b=>by
 rw[gg,cell_of_row w r (off+j) c el fz d];rw[bR]at b;split at b
 . rw[bL]at b;simpa using b
 . cases b
theorem zH (hH:HR P W φ (hp H) w){s n c:Nat}{d:Option Addr}{t:Value}{xs:List Value}(x:VR φ (.slice d n c) t)(h:cellsOf H s d n=some xs):
 ∃p,LR φ xs p/\p.length=n*s/\
  ((d=none/\n=0/\t= .slice none n c)\/∃a c',t= .slice (some a) n c'/\∀j v,p[j]? = some v->w.cell? (a.add j)=some v):=by
 cases d with
 | none=>
   obtain⟨q,u⟩:=bE (show(bif ay n 0 then some []else none)=some xs from h);cases u;have q:=beq_eq q;subst q;have:=x.aR rfl;exact⟨[],.nil,by simp,.inl ⟨rfl,rfl,this⟩⟩
 | some a=>
   obtain⟨b,off,sp⟩:=a;obtain⟨e,c',B,rfl,rfl,_⟩:=x.jn;have h:zB (H.get (bits b)) (λm tr=>bif bj (off+n*s) m then vd tr (n*s) off else none) none=some xs:=h;obtain⟨m,tr,A,h⟩:=xF h;obtain⟨l,z⟩:=bE h;obtain⟨cs,el',fz,C,hn,y⟩:=hH.row A B;have l:=fI l;obtain⟨q,u⟩:=rh y z l hn;exact⟨_,q,by rw[<- q.len,u],.inr ⟨_,c',rfl,tL C⟩⟩
theorem qI {w:World}{d:Value}{n s:Nat}{b:List Value}(e:b.length=n*s)
 (h:(n=0/\∃c,d= .slice none n c)\/∃a c',d= .slice (some a) n c'/\∀j v,b[j]? = some v->w.cell? (a.add j)=some v):
 (Builtin.firstCells s n d).run P w= .ok b.toArray w/\(Builtin.lenOf d).run P w= .ok n w:=by
 rcases h with⟨rfl,c,rfl⟩ | ⟨a,c',rfl,h⟩
 . have:b=[]:=by
    cases b with
    | nil=>rfl
    | cons _ _=>simp at e
   subst this;exact⟨rfl,rfl⟩
 . exact⟨run_firstCells_some w s n a n c' b e h,rfl⟩
theorem zI {es:List Value}{s:Nat}(h:∀x∈es,x.cells.toList.length=s):(es.flatMap λu=>u.cells.toList).length=es.length*s:=by
 induction es with
 | nil=>simp
 | cons x es b=>
   rw[fj,aj,h x (by simp),b λy a=>h y (by simp[a]),ao,ir];omega
theorem Ef {es:List Value}{s:Nat}(h:∀x∈es,x.cells.toList.length=s):∀(m:Nat) (v:Value),(es.flatMap λu=>u.cells.toList)[m]? = some v->∃i j x,m=i*s+j/\es[i]? = some x/\x.cells.toList[j]? = some v:=by
 induction es with
 | nil=>intro m v a;simp at a
 | cons x es e=>
   intro m v a;rw[fj]at a;have hx:=h x (by simp)
   by_cases b:m<x.cells.toList.length
   . rw[bc b]at a;exact⟨0,m,x,by omega,rfl,a⟩
   . rw[bZ (by omega),hx]at a;obtain⟨i,j,y,h1,d,l⟩:=e (λy c=>h y (by simp[c])) _ v a;refine⟨i+1,j,y,?_,by simpa using d,l⟩;rw[hx]at b;rw[ir];omega
theorem Gp (hH:HR P W φ (hp H) w){s D:Nat}{xv G:Value}{xs:List Value}(I:VR φ xv G)(h:qv H s xv=some (D,xs)):
 ∃d,LR φ xs d/\d.length=D*s/\((D=0/\∃c,G= .slice none D c)\/∃a c',G= .slice (some a) D c'/\∀j v,d[j]? = some v->w.cell? (a.add j)=some v):=by
 unfold qv at h;split at h
 . rename_i xb n xc;obtain⟨l,L,E⟩:=aY h;cases E;obtain⟨d,z,B,p⟩:=zH hH I L;refine⟨d,z,B,?_⟩;rcases p with⟨_,p,F⟩ | p
   . exact .inl ⟨p,_,F⟩
   . exact .inr p
 . obtain⟨s',es,rfl,E⟩:=mR h;obtain⟨z,B⟩:=bE E;have z:=beq_eq z;subst z;cases B;clear h E;rcases I.mj with⟨rfl,q | ⟨a,c',q⟩⟩ | ⟨k,M,c',e,c,B,p,F,J,h7,N,q⟩
   . exact⟨[],.nil,by simp,.inl ⟨rfl,_,q⟩⟩
   . exact⟨[],.nil,by simp,.inr ⟨_,c',q,λj v t=>by simp at t⟩⟩
   . obtain⟨el,fz,A⟩:=hH.qH k e c B p;have y:=zI F
     by_cases u:es=[]
     . subst u;exact⟨[],.nil,by simp,.inr ⟨_,c',q,λj v t=>by simp at t⟩⟩
     . have J:=J u;refine⟨(c.toList.drop M).take (es.length*s'),⟨?_,λm a b K C=> ?_⟩,?_,.inr ⟨_,c',q,tL A⟩⟩
       . rw[y];simp only[cC,aD,ch];omega
       . obtain⟨i,j,x,rfl,hi,t⟩:=Ef F m a K;rw[bR]at C;split at C
         . rw[bL,dT]at C;exact N i j x a b hi t (by rw[iK];exact C)
         . cases C
       . simp only[cC,aD,ch];omega
theorem Eg {e:TypeId}{s dj:Nat}(h:da P e s dj=true)(d:bT P e=some s):
 ∃i b,P.info? e=some i/\i.zero=some b/\i.size=s/\b.cells.size=s/\0<s/\dj<=1048576/\i.bytes<=65536:=by
 unfold da at h;split at h
 . rename_i i z hi m;simp only[ae]at h;obtain⟨i',b,a,c,j,_⟩:=kK m;rw[hi]at a;cases a;have l:=beq_eq h.1.1.1;refine⟨i,b,hi,c,?_,?_,iZ h.1.1.2,fI h.1.2,fI h.2⟩
   . unfold bT at d;rw[hi]at d;cases d;rfl
   . rw[<- l,<- j];simp
 . cases h
theorem Gq {d:TypeDesc}(h:∀k,d ≠ .int k):(match d with | .int _=>true | _=>false)=false:=by
 cases d<;>first | rfl | exact absurd rfl (h _)
theorem qJ (t u p e:TypeId)(i:TypeInfo){d:TypeDesc}(q:P.underlying t=some (.slice e))(j:P.underlying u=some d)(hd:∀k,d ≠ .int k)(hi:P.info? e=some i)(b:Addr)(a c:Nat){x:Value}{n:Nat}{xs:List Value}
 (hn:(Builtin.lenOf x).run P w= .ok n w) (m:(Builtin.firstCells i.size n x).run P w= .ok xs.toArray w) (l:a+n<=c) {w':World}
 (h:(storeCells (b.add (a*i.size)) xs).run P w= .ok () w'):
 (Builtin.append_ #[t,u] p #[.slice (some b) a c,x]).run P w= .ok (.slice (some b) (a+n) c) w':=by
 have s:=Gq hd;simp[Builtin.append_,run_underlying q,run_underlying j,s,sizeOf,typeInfo,hi,hn,l,m,h]
theorem vh (t u l e:TypeId)(i:TypeInfo){d:TypeDesc}(h:P.underlying t=some (.slice e))(b:P.underlying u=some d)(hd:∀k,d ≠ .int k)(hi:P.info? e=some i){x:Value}{xs:List Value}
 (hn:(Builtin.lenOf x).run P w= .ok 0 w) (c:(Builtin.firstCells i.size 0 x).run P w= .ok xs.toArray w):
 (Builtin.append_ #[t,u] l #[.slice none 0 0,x]).run P w= .ok (.slice none 0 0) w:=by
 have j:=Gq hd;simp[Builtin.append_,run_underlying h,run_underlying b,j,sizeOf,typeInfo,hi,hn,c]
theorem n_ (t u B e:TypeId)(i:TypeInfo)(z:Value){d:TypeDesc}(C:P.underlying t=some (.slice e))(q:P.underlying u=some d)(hd:∀k,d ≠ .int k)(hi:P.info? e=some i)(A:i.zero=some z)
 (j:Option Addr) (a b:Nat) (h:List Value) (l:(Builtin.firstCells i.size a (.slice j a b)).run P w.drew= .ok h.toArray w.drew) {x:Value} (n:Nat) (c:List Value)
 (hn:(Builtin.lenOf x).run P w= .ok n w) (y:(Builtin.firstCells i.size n x).run P w.drew= .ok c.toArray w.drew)
 (hg:b<a+n) (h63:((a+n:Nat):Int)<=9223372036854775807) (hfit:Builtin.nextslicecap (a+n) b*i.bytes<=281474976710656):
 (Builtin.append_ #[t,u] B #[.slice j a b,x]).run P w=
  .ok (.slice (some ⟨w.heap.size,0,none⟩) (a+n) (grownCap w (a+n) b e))
   (w.drew.alloc (.cells ((h++c).toArray++Builtin.zeroCells z.cells (grownCap w (a+n) b e-(a+n))) e)):=by
 have D:=Gq hd;have s:¬(a+n<=b):=by omega
 have m:¬(9223372036854775807<((a:Int)+(n:Int))):=by omega
 have p:¬(281474976710656<Builtin.nextslicecap (a+n) b*i.bytes):=by omega
 simp[Builtin.append_,run_underlying C,run_underlying q,D,sizeOf,typeInfo,zeroValue,hi,A,hn,s,m,p,Question.forced,y,l,newRow,grownCap];congr 2;apply eU;simp[bn]
theorem kU {H:T OB}{nx:Nat}{e:TypeId}{m:Nat}{l:List Value}:kD H nx e m l= .val (.slice (some ⟨nx,0,none⟩) m iw) (set H (bits nx) (some (fR l e))) (nx+1):=by
 unfold kD;rw[iS,bW]
theorem lb {c:Call}(a:c.callee= .builtin .append)(b:o.op= .call c){r:Result Value}(h:(Builtin.append_ c.argTypes o.type (c.args.map ρ)).run P w=r):
 (execOp ρ o).run P w=r.andThen λv w'=> .ok (.value v) w':=by
 subst h;simp only[execOp,b,resolve,a,Sem.run_bind,Sem.run_pure,Result.andThen_ok,invoke,builtin]
theorem xQ (z:Array Value)(n:Nat):(Builtin.zeroCells z n).size=n*z.size:=by simp[Builtin.zeroCells]
theorem grownCap_ge (w:World)(dj b:Nat)(e:TypeId):dj<=grownCap w dj b e:=by
 unfold grownCap;simp only[Question.cut];omega
theorem Ia (ej:φ.length=nx){e:TypeId}{j:Value}{s m a:Nat}{l l':List Value}{r:Result Next}(b:T OB)(c:HR P W φ (hp b) w)(q:jz φ φ (hp H) (hp b))
 (p:bT P e=some s) (n:j.cells.size=s) (t:LR φ l l') (d:l'.length=m*s) (u:m<=a)
 (x:r= .ok (.value (.slice (some ⟨w.heap.size,0,none⟩) m a)) (w.drew.alloc (.cells (l'.toArray++Builtin.zeroCells j.cells (a-m)) e))):
 mG P W φ H w r (.slice (some ⟨nx,0,none⟩) m iw) (set b (bits nx) (some (fR l e))) (nx+1):=by
 subst ej;refine⟨_,_,_,_,x,.inl rfl,.slice (mU φ w.heap.size (l'.toArray++Builtin.zeroCells j.cells (a-m)).size s) (.inr ⟨rfl,u,?_⟩),oK _ _ _ _,?_,mT _ _ _ _,?_⟩
 . simp only[Array.size_append,List.size_toArray,xQ,n,d];rw[<- ic];rw[show m+(a-m)=a from by omega];omega
 . rw[dc];exact c.drew.fresh _ (Bl (w:=w.drew) t e e _ (λz h=>by rw[p]at h;cases h;rfl) c.below.drew)
 . rw[dc];exact q.trans (lO _ _ _ _ _ _)
theorem VO (hH:HR P W φ (hp H) w)(ej:φ.length=nx){c:Call}(hc:c.callee= .builtin .append)(ho:o.op= .call c){t u e:TypeId}{s l sc m:Nat}{Z:Option Addr}{sv xv:Value}{xs J:List Value}
 (U:c.argTypes=#[t,u]) (C:c.args.map ρ=#[sv,xv]) (hsv:VR φ (.slice Z l sc) sv) (hu:P.underlying t=some (.slice e)) (hux:∃d,P.underlying u=some d/\∀k,d ≠ .int k) (hs:bT P e=some s)
 (hsm:da P e s (l+m)=true) (K:LR φ xs J) (R:J.length=m*s) (X:∀w',(Builtin.lenOf xv).run P w'= .ok m w') (hfx:(Builtin.firstCells s m xv).run P w= .ok J.toArray w)
 (Y:(Builtin.firstCells s m xv).run P w.drew= .ok J.toArray w.drew) (h:rU P H nx e s Z l sc m xs= .val v H' nx'):mG P W φ H w ((execOp ρ o).run P w) v H' nx':=by
 obtain⟨i,z',hi,O,his,hzs,h0,hneed,hby⟩:=Eg hsm hs;obtain⟨dd,hud,hdd⟩:=hux;rw[<- his]at hfx Y;have h48:∀p,p<l+m->Builtin.nextslicecap (l+m) p*i.bytes<=281474976710656:=λp y=>
  growslice_fits y (ga (Nat.mul_le_mul hneed hby) (by decide))
 cases Z with
 | none=>
   have hsv:=hsv.aR rfl;subst hsv;obtain⟨I,h'⟩:=fX (show(bif ay l 0&&ay sc 0 then(bif ay m 0 then iV.val (.slice none 0 0) H nx else kD H nx e m xs)else .bad)= .val v H' nx' from h);simp only[ae]at I;have hb1:=beq_eq I.1;have hb2:=beq_eq I.2;subst hb1 hb2;cases F:ay m 0 with
   | true=>
     rw[F]at h';have h':iV.val (.slice none 0 0) H nx= .val v H' nx':=h';cases h';have F:=beq_eq F;subst F;refine⟨φ,.slice none 0 0,w,.value (.slice none 0 0),?_,.inl rfl,.flat _ rfl,φ.le_refl,hH,ej,jz.refl _ _⟩;rw[lb hc ho (r:= .ok (.slice none 0 0) w) ?_]
     . rfl
     . rw[U,C];exact vh t u o.type e i hu hud hdd hi (X w) hfx
   | false=>
     rw[F]at h';have h':kD H nx e m xs= .val v H' nx':=h';rw[kU]at h';cases h';have F:0<m:=by
      rcases Nat.eq_zero_or_pos m with q | q
      . subst q;cases F
      . exact q
     refine Ia ej H hH (jz.refl _ _) hs hzs K R (grownCap_ge w m 0 e) ?_;rw[lb hc ho rfl,U,C];have h5:=n_ (P:=P) (w:=w) t u o.type e i z' hu hud hdd hi O none 0 0 [] rfl m J (X w) Y (by omega) (by omega) (h48 0 (by omega));rw[bN,cj]at h5;rw[h5];rfl
 | some a0=>
   obtain⟨b,off,sp⟩:=a0;obtain⟨A,B,I,rfl,rfl,hcap⟩:=hsv.jn;have h:gM (H.get (bits b)) (λn tr el=>bif ay sc iw then XA P H nx e s b off l m n tr xs
    else bif bj (l+m) sc then Lq H nx s b off l sc m n tr el xs else uH H nx e s off l m n tr xs) .bad= .val v H' nx':=h
   obtain⟨n,tr,el,hg,h⟩:=xP h;obtain⟨cr,elr,hrow,hrsz,hrn,si⟩:=hH.cells hg I;have grow:∀(G:T OB) (p:List Value),HR P W φ (hp G) w->jz φ φ (hp H) (hp G)->vd tr (l*s) off=some p->off+l*s<=n->B<l+m->0<m->
    mG P W φ H w ((execOp ρ o).run P w) (.slice (some ⟨nx,0,none⟩) (l+m) iw) (set G (bits nx) (some (fR (p++xs) e))) (nx+1):=by
    intro G p hH₁ M y E hlt F;obtain⟨ho1,N⟩:=rh si y E (by omega);have holds:=run_firstCells_some (P:=P) w.drew i.size l ⟨A.r,off,none⟩ l B _ (by rw[<- ho1.len,N,his]) (tL (w:=w.drew) (s:=l*s) hrow);refine Ia ej G hH₁ M hs hzs (ho1.append K) ?_ (grownCap_ge w (l+m) B e) ?_
    . rw[aj,<- ho1.len,N,R,ic]
    . rw[lb hc ho rfl,U,C,n_ (P:=P) (w:=w) t u o.type e i z' hu hud hdd hi O (some ⟨A.r,off,none⟩) l B _ holds m J (X w) Y hlt (by omega) (h48 B hlt)];rfl
   cases L:ay sc iw with
   | true=>
     rw[L]at h;have h:XA P H nx e s b off l m n tr xs= .val v H' nx':=h;have L:=beq_eq L;rcases hcap with⟨q,_⟩ | ⟨_,hcl,hcb⟩
     . exact absurd L q
     unfold XA at h;obtain⟨Q,h⟩:=fX h;obtain⟨p,y,h⟩:=eI h;rw[bQ,kU]at h;cases h;simp only[ae]at Q;have hoff:=beq_eq Q.1.1.1;have hsn:=fI Q.1.1.2;subst hoff;have hes:A.es=s:=by
      have D:=Q.1.2;unfold xk at D;rw[hg]at D;have D:aw (bT P el) (λz=>ay z s) false=true:=D;cases O:bT P el with
      | none=>rw[O]at D;cases D
      | some z=>
        rw[O]at D;have D:ay z s=true:=D;have:=beq_eq D;subst this;exact hH.es (show hp H b=some (.cells n tr el)from hg) I z O
     have hkill:HR P W φ (hp (set H (bits b) (some .dead))) w:=by rw[dc];exact hH.kill (show hp H b=some (.cells n tr el)from hg) I
     have S:jz φ φ (hp H) (hp (set H (bits b) (some .dead))):=λk M=>⟨M,by
      rw[dc,bP];intro q;subst q;rw[I]at M;cases M⟩
     by_cases hfit:l+m<=B
     . -- in place: the new block of ours over the p row
       obtain⟨ho1,N⟩:=rh si y (by omega) (by omega);have hle1:(l+m)*s<=A.sz:=by
        have:(l+m)*s<=B*s:=fM s hfit;rw[hes]at hcb;omega
       rw[ic]at hle1;obtain⟨hab,_,_⟩:=hH.obj b _ A (show hp H b=some (.cells n tr el)from hg) I;have hAl:=hkill.alias (e:=A) (ob:= .cells A.sz (iQ p 0 .leaf) e) (hH.tu b A I) (λk ob x hgk hlk hφk hr=>by
        rw[dc]at hgk
        by_cases hkb:k=b
        . subst hkb;rw[fH]at hgk;cases hgk;cases hlk
        . rw[bP _ hkb]at hgk;exact hkb (hH.inj k b _ _ x A hφk I hgk (show hp H b=some (.cells n tr el)from hg) hlk rfl hr))
        (by
         cases O:A.fz with
         | none=>rfl
         | some cz=>exact absurd rfl (hH.xJ b b A A cz _ I O I (show hp H b=some (.cells n tr el)from hg) rfl))
        (λk x cz hx O=>hH.xJ k b x A cz _ hx O I (show hp H b=some (.cells n tr el)from hg) rfl) ⟨hab,⟨cr,elr,hrow,hrsz,ax _,λj hj v hv=>by
        rw[gz]at hv;split at hv
        . rename_i hjl;have hj2:j<l*s:=by omega
          have h3:=(xB tr (l*s) 0 p y).2 j hj2;rw[bN]at h3;rw[iu]at hv;rw[hv]at h3;exact si j (by omega) v h3
        . rw[mQ]at hv;cases hv⟩,λz O=>by rw[hs]at O;cases O;exact hes⟩
       obtain⟨w',V,hH2⟩:=kc (φ:=φ++[some A]) (b:=φ.length) (n:=A.sz) (el:=e) (e:=A) (i_ φ _) xs J (l*s) 0 _ w _ hAl (fH _ _ _) (K.mono (fG φ _)) Q.2 (by rw[K.len,R];omega);rw[se,Nat.add_zero]at hH2;have hH3:=hH2.XQ (k:=φ.length) (n':=(p++xs).length) (t':=iQ (p++xs) 0 .leaf) (fH _ _ _) (i_ φ _) (by rw[aj,N,K.len,R];omega) (λj hj=>by
        rw[gz,gz,if_pos (by omega),iu];rw[aj,N]at hj
        by_cases hjs:j<l*s
        . rw[if_neg (by omega),bc (by omega),gz,if_pos (by omega),iu]
        . rw[if_pos (by omega),bZ (by omega),N])
       rw[se]at hH3;subst ej;refine⟨φ++[some A],.slice (some ⟨A.r,0,none⟩) (l+m) B,w',.value (.slice (some ⟨A.r,0,none⟩) (l+m) B),?_,.inl rfl,.slice (i_ φ _) (.inr ⟨rfl,hfit,hcb⟩),fG φ _,?_,by simp,?_⟩
       . rw[lb hc ho (r:= .ok (.slice (some ⟨A.r,0,none⟩) (l+m) B) w') ?_]
         . rfl
         . rw[U,C];refine qJ t u o.type e i hu hud hdd hi ⟨A.r,0,none⟩ l B (X w) hfx hfit ?_;rw[gg,his,bN];exact V
       . rw[dc];exact hH3
       . rw[dc];refine S.trans (λk M=>⟨?_,bP _ ?_ _⟩)
         . rw[bc (ar.1 M).1];exact M
         . have:=(ar.1 M).1;omega
     . exact grow _ p hkill S y (by omega) (by omega) (by omega)
   | false=>
     rw[L]at h;have hne:sc≠iw:=λq=>by rw[q]at L;exact absurd (cm iw) (by rw[L];decide)
     have hc0:B=sc:=by
      rcases hcap with⟨_,q⟩ | ⟨q,_⟩
      . exact q
      . exact absurd q hne
     subst hc0;have h:(bif bj (l+m) B then Lq H nx s b off l B m n tr el xs else uH H nx e s off l m n tr xs)= .val v H' nx':=h;cases E:bj (l+m) B with
     | true=>
       rw[E]at h;have h:Lq H nx s b off l B m n tr el xs= .val v H' nx':=h;have E:=fI E;unfold Lq at h;obtain⟨Q,h⟩:=fX h;rw[fW,bQ,bW]at h;cases h;simp only[ae]at Q;have hin:=fI Q.1;have hmul:(l+m)*s<=B*s:=fM s E;rw[ic]at hmul;obtain⟨w',V,hH2⟩:=kc I xs J (off+l*s) 0 (hp H) w tr hH hg K Q.2 (by rw[K.len,R];omega);refine⟨φ,.slice (some ⟨A.r,off,none⟩) (l+m) B,w',.value (.slice (some ⟨A.r,off,none⟩) (l+m) B),?_,.inl rfl,.slice I (.inl ⟨hne,rfl⟩),φ.le_refl,?_,ej,?_⟩
       . rw[lb hc ho (r:= .ok (.slice (some ⟨A.r,off,none⟩) (l+m) B) w') ?_]
         . rfl
         . rw[U,C];refine qJ t u o.type e i hu hud hdd hi ⟨A.r,off,none⟩ l B (X w) hfx E ?_;rw[gg,his];exact V
       . rw[dc];exact hH2
       . intro k M;refine⟨M,?_⟩;rw[dc,bP];intro q;subst q;rw[I]at M;cases M
     | false=>
       rw[E]at h;have h:uH H nx e s off l m n tr xs= .val v H' nx':=h;have hlt:B<l+m:=by
        rcases Nat.lt_or_ge B (l+m)with q | q
        . exact q
        . exact absurd (av q) (by rw[E];decide)
       unfold uH at h;obtain⟨Q,h⟩:=fX h;obtain⟨p,y,h⟩:=eI h;rw[kU]at h;cases h;simp only[ae]at Q;exact grow H p hH (jz.refl _ _) y (fI Q.1) hlt (iZ Q.2)
theorem LC (hH:HR P W φ (hp H) w)(ej:φ.length=nx){c:Call}(hc:c.callee= .builtin .append)(ho:o.op= .call c)(hE:tv P φ tm ρ c.args.toList)
 (h:fe P H nx c.argTypes.toList (ve P tm c.args.toList)= .val v H' nx'):mG P W φ H w ((execOp ρ o).run P w) v H' nx':=by
 have M:∀{a b:Value},ve P tm c.args.toList=some [a,b]->∃J xv,VR φ a J/\VR φ b xv/\c.args.map ρ=#[J,xv]:=by
  intro a b l;have Q:=tG _ _ hE l;obtain⟨J,m1,hm1,B,m⟩:=Q.inv;obtain⟨xv,m2,hm2,n,m⟩:=m.inv;have V:=m.pq;subst V;subst hm2;exact⟨J,xv,B,n,eU (by rw[Array.toList_map];exact hm1)⟩
 have K:∀{t u:TypeId},c.argTypes.toList=[t,u]->c.argTypes=#[t,u]:=λ{t u} q=>by
  have:c.argTypes.toList.toArray=#[t,u]:=by rw[q]
  simpa using this
 unfold fe at h;split at h
 . rename_i E U sc b t u l A;obtain⟨J,xv,B,n,z⟩:=M l;have n:=n.aR rfl;subst n;obtain⟨F,h⟩:=fX h;obtain⟨e,s,R,hs,h⟩:=ml h;obtain⟨C,h⟩:=fX h;simp only[ae]at C;have hs1:=beq_eq C.2;subst hs1;have hud:∃d,P.underlying u=some d/\∀k,d ≠ .int k:=by
    unfold re at F;split at F
    . rename_i q;exact⟨_,q,λk=>by simp⟩
    . cases F
   have L:∀w',(Builtin.firstCells 1 b.size (.string b)).run P w'= .ok (b.data.toList.map λx=>Value.int .u8 (.ofNat x.toNat)).toArray w':=λw'=>by
    simp[Builtin.firstCells];exact eU (by simp)
   refine VO hH ej hc ho (xv:= .string b) (xs:=b.data.toList.map λx=> .int .u8 (.ofNat x.toNat)) (K A) z B R hud hs C.1 (LR.of_flat (λx hx=> ?_)) ?_ (λw'=>rfl) (L w) (L w.drew) h
   . obtain⟨y,_,rfl⟩:=bo.1 hx;rfl
   . simp
 . unfold rV at h;split at h
   case h_2=>cases h
   rename_i E U sc xv0 t u l A;obtain⟨J,xv,B,n,z⟩:=M l;cases D:ay t u with
   | false=>rw[D]at h;cases h
   | true=>
     rw[D]at h;have D:=beq_eq D;subst D;have h:fU P t (λe s=>aw (qv H s xv0) (λp=>bif da P e s (U+p.1)then rU P H nx e s E U sc p.1 p.2 else .bad) .bad) .bad= .val v H' nx':=h;obtain⟨e,s,R,hs,h⟩:=ml h;obtain⟨⟨S,xs⟩,X,h⟩:=eI h;obtain⟨C,h⟩:=fX h;obtain⟨xs',Y,G,I⟩:=Gp hH n X;obtain⟨Z,hlx⟩:=qI (P:=P) G I;have N:(S=0/\∃c,xv= .slice none S c)\/∃a c',xv= .slice (some a) S c'/\∀j v,xs'[j]? = some v->w.drew.cell? (a.add j)=some v:=I;obtain⟨O,_⟩:=qI (P:=P) (w:=w.drew) G N;have hl:∀w',(Builtin.lenOf xv).run P w'= .ok S w':=λw'=>by
      rcases I with⟨_,c,rfl⟩ | ⟨a,c',rfl,_⟩<;>rfl
     exact VO hH ej hc ho (K A) z B R ⟨_,R,λk=>by simp⟩ hs C Y G hl Z O h
end ops
end
section
variable {P:Program}{W w:World}{φ:fq}{H:T OB}{tm:T Value}{ρ:Operand->Value}{g:Nat->Option OB}
section ops
variable {o:Oper}{v:Value}{H':T OB}{nx nx':Nat}
theorem Gr (hH:HR P W φ (hp H) w)(ej:φ.length=nx){t:TypeId}(a:o.op= .makeMap t none)
 (h:(fQ (bits nx) H (some (.map [] 0)) λH=>eF (cS nx) λn=>iV.val (.map (some nx)) H n)= .val v H' nx'):mG P W φ H w ((execOp ρ o).run P w) v H' nx':=by
 rw[bQ,bW]at h;cases h;subst ej;refine⟨fresh φ w.heap.size 0 0,.map (some w.heap.size),w.alloc (.map #[] 0),.value (.map (some w.heap.size)),?_,.inl rfl,.map (mU φ _ _ _),oK _ _ _ _,?_,mT _ _ _ _,?_⟩
 . simp[execOp,a,Instr.makeMap]
 . rw[dc];exact hH.fresh _ ⟨hH.below.size,#[],Go.heap_alloc_new w _,.nil⟩
 . rw[dc];exact lO _ _ _ _ _ _
theorem qK (hH:HR P W φ (hp H) w)(ej:φ.length=nx){m m':Option Nat}{c:Nat}(a:Ge φ m m'){r:Result Next}
 (b:r= .ok (.value (.pointer (some ⟨w.heap.size,0,none⟩))) (w.alloc (.mapIter m' c #[] c))) (h:po H nx m c= .val v H' nx'):mG P W φ H w r v H' nx':=by
 unfold po at h;rw[bQ,bW]at h;cases h;subst ej;refine⟨fresh φ w.heap.size 0 0,_,_,_,b,.inl rfl,.ptr (mU φ _ _ _),oK _ _ _ _,?_,mT _ _ _ _,?_⟩
 . rw[dc];exact hH.fresh _ ⟨hH.below.size,m',#[],Go.heap_alloc_new w _,rfl,a⟩
 . rw[dc];exact lO _ _ _ _ _ _
theorem sj {x:Option OB}{k:List MapEntry->Nat->iV}{v:Value}{H':T OB}{nx':Nat}(h:A7 x k .bad= .val v H' nx'):∃es c,x=some (.map es c)/\k es c= .val v H' nx':=by
 unfold A7 at h;split at h
 . exact⟨_,_,rfl,h⟩
 . cases h
theorem Ai {x:Option OB}{k:Option Nat->Nat->List Nat->Nat->iV}{v:Value}{H':T OB}{nx':Nat}(h:xw x k .bad= .val v H' nx'):
 ∃m s l c,x=some (.iter m s l c)/\k m s l c= .val v H' nx':=by
 unfold xw at h;split at h
 . exact⟨_,_,_,_,rfl,h⟩
 . cases h
theorem LD {t:TypeId}{k:TypeDesc->TypeId->iV}{v:Value}{H':T OB}{nx':Nat}(h:qE P t k .bad= .val v H' nx'):
 ∃b a d,P.underlying t=some (.map b a)/\P.underlying b=some d/\mh d=true/\k d a= .val v H' nx':=by
 unfold qE at h;split at h
 . rename_i b a l;obtain⟨d,e,c⟩:=eI h;obtain⟨m,j⟩:=fX c;exact⟨b,a,d,l,e,m,j⟩
 . cases h
theorem Nb (hH:HR P W φ (hp H) w)(ej:φ.length=nx){t:TypeId}{x:Operand}(m:o.op= .range t x)(j:∀v,cZ P tm x=some v->VR φ v (ρ x))
 (h:A8 P H nx t (cZ P tm x)= .val v H' nx'):mG P W φ H w ((execOp ρ o).run P w) v H' nx':=by
 unfold A8 at h;obtain⟨d,h⟩:=fX h;unfold MT at d;split at d
 . rename_i kt et l;split at h
   . rename_i hx;have a:=(j _ hx).aR rfl;refine qK (m':=none) hH ej (show Ge φ none none from trivial) ?_ h;simp[execOp,m,a,Instr.range,cJ l]
   . rename_i b hx;obtain⟨e,n,a⟩:=(j _ hx).rY;obtain⟨es,c,p,h⟩:=sj h;obtain⟨_,es',q,hml⟩:=hH.obj b _ e (show hp H b=some (.map es c)from p) n;refine qK (m':=some e.r) hH ej (show Ge φ (some b) (some e.r)from⟨e,n,rfl⟩) ?_ h;simp[execOp,m,a,Instr.range,cJ l,MapKept.run_getObj_map q]
   . cases h
 . cases d
theorem ri {w:World}{r:Nat}{o a:Obj}(b:w.heap[r]? = some o)(hn:∀c e f,o ≠ .cells c e f):(setObj r a).run P w= .ok () { w with heap:=w.heap.setIfInBounds r a }:=by
 unfold Go.setObj;cases o with
 | cells c e f=>exact absurd rfl (hn _ _ _)
 | _=>simp only[Sem.run,b]
theorem ig {w:World}{r:Nat}{o:Obj}(a:w.heap[r]? = some o)(hn:∀c e f,o ≠ .cells c e f):(getObj r).run P w= .ok o w:=by
 unfold getObj;cases o with
 | cells c e f=>exact absurd rfl (hn _ _ _)
 | _=>simp only[Sem.run,a]
theorem HR.setObj (hH:HR P W φ g w){b:Nat}{a c:OB}{e:lh}(j:g b=some a)(h:live a=true)(m:φ[b]? = some (some e))(l:Obj)
 (d:Ea P W φ c e { w with heap:=w.heap.setIfInBounds e.r l }):HR P W φ (rS g b (some c)) { w with heap:=w.heap.setIfInBounds e.r l }:=by
 have hab:=Ea.aaT h (hH.obj b a e j m);refine hH.put j h m ?_ (by simp) (λr n=>fw (λq=>n q.symm)) d;exact hH.below.trans ⟨rfl,rfl,rfl,by simp,λk hk=>fw (by omega)⟩
theorem heap_set {w:World}{r:Nat}{o a:Obj}(b:w.heap[r]? = some o):({ w with heap:=w.heap.setIfInBounds r a }:World).heap[r]? = some a:=
 fF (aU.1 b).1
theorem Eh {b:Nat}{e:lh}(c:φ[b]? = some (some e))(x:Option OB):jz φ φ g (rS g b x):=λk a=>⟨a,bP g (λq=>by subst q;rw[c]at a;cases a) x⟩
theorem uI.length {l l':List MapEntry}(h:uI φ l l'):l'.length=l.length:=by
 induction h with
 | nil=>rfl
 | cons _ _ a=>simp[a]
theorem uI.append {a c b d:List MapEntry}(h:uI φ a c)(e:uI φ b d):uI φ (a++b) (c++d):=by
 induction h with
 | nil=>exact e
 | cons h _ j=>exact .cons h j
theorem uI.modify {k a v c:Value}(n:VR φ k a)(m:VR φ v c){l l':List MapEntry}(h:uI φ l l'):∀i,uI φ (l.modify i λe=>{ e with key:=k,val:=v }) (l'.modify i λe=>{ e with key:=a,val:=c }):=by
 induction h with
 | nil=>intro i;cases i<;>exact .nil
 | @cons e e' l l' b d j=>
   intro i;cases i with
   | zero=>exact .cons ⟨n,m,b.born⟩ d
   | succ i=>exact .cons b (j i)
theorem uN {d:TypeDesc}{k:Value}:∀(l:List MapEntry) (i j:Nat) (v:Value),Instr.findNow d k l i=some (some (j,v))->∃n e,j=i+n/\l[n]? = some e/\Instr.sameNow d k e.key=some true
 | [],i,j,v,h=>by cases h
 | e::l,i,j,v,h=>by
   unfold Instr.findNow at h;cases a:Instr.sameNow d k e.key with
   | none=>rw[a]at h;cases h
   | some b=>
     rw[a]at h;cases b with
     | true=>cases h;exact⟨0,e,rfl,rfl,a⟩
     | false=>
       obtain⟨n,c,h1,m,p⟩:=uN l (i+1) j v h;exact⟨n+1,c,by omega,by simpa using m,p⟩
theorem bytes_beq {a b:ByteArray}(h:(a == b)=true):(b == a)=true:=by
 have:a=b:=by
  cases a;cases b;exact congrArg _ (eq_of_beq h)
 subst this;exact h
theorem Ei {d:TypeDesc}{k a:Value}(h:Instr.sameNow d k a=some true)(n:Nat):Instr.sameBits (n+1) a k=true:=by
 unfold Instr.sameNow at h;split at h
 . split at h
   . rename_i b;subst b;injection h with h
     have:=beq_iff_eq.1 h;subst this;simp[Instr.sameBits]
   . cases h
 . injection h with h
   simp only[Instr.sameBits];exact bytes_beq h
 . injection h with h
   have:=beq_iff_eq.1 h;subst this;simp[Instr.sameBits]
 . cases h
theorem sk (hH:HR P W φ (hp H) w)(ej:φ.length=nx){t:TypeId}{m k x:Operand}(ho:o.op= .mapUpdate t m k x)(U:tv P φ tm ρ [m,k,x])
 (h:db P H nx t (cZ P tm m) (cZ P tm k) (cZ P tm x)= .val v H' nx'):mG P W φ H w ((execOp ρ o).run P w) v H' nx':=by
 unfold db at h;obtain⟨kt,et,d,Z,hd,A,h⟩:=LD h;obtain⟨b,L,h⟩:=eI h;obtain⟨M,hk,h⟩:=eI h;obtain⟨xv,hx,h⟩:=eI h;obtain⟨es,c,hg,h⟩:=sj h;have V:cZ P tm m=some (.map (some b)):=by
  unfold VI at L;split at L
  . rename_i q;cases L;exact q
  . cases L
 obtain⟨e,R,D⟩:=(U m (by simp) _ V).rY;have s:=U k (by simp) M hk;have G:=U x (by simp) xv hx;have B:hp H b=some (.map es c):=hg;obtain⟨Q,j,C,p⟩:=hH.obj b _ e B R;have l:∀c' e' f,Obj.map j c ≠ .cells c' e' f:=λ_ _ _=>by simp
 cases O:Instr.findNow d M es 0 with
 | none=>rw[O]at h;cases h
 | some r=>
   rw[O]at h;obtain⟨r',I,N⟩:=xM s p 0 r O;have J:=run_findKey hd I w;have K:∀(y:List MapEntry) (a:Array MapEntry) (X:Nat),uI φ y a.toList->(execOp ρ o).run P w= .ok .skip { w with heap:=w.heap.setIfInBounds e.r (.map a X) }->
    mG P W φ H w ((execOp ρ o).run P w) undef (set H (bits b) (some (.map y X))) nx:=λy a X hn F=>
    ⟨φ,undef,_,.skip,F,.inr ⟨rfl,rfl⟩,.flat _ rfl,φ.le_refl,by rw[dc];exact hH.setObj B rfl R _ ⟨Q,a,heap_set C,hn⟩,ej,by rw[dc];exact Eh R _⟩
   cases N with
   | @some i u u' hu'=>
     have h:(fQ (bits b) H (some (.map (es.modify i λe=>{ e with key:=M,val:=xv }) c)) λH=>iV.val undef H nx)= .val v H' nx':=h;rw[bQ]at h;cases h;refine K _ (j.modify i λe=>{ e with key:=ρ k,val:=ρ x }) c (by rw[Array.toList_modify];exact p.modify s G i) ?_;obtain⟨n,en,E,Y,S⟩:=uN _ _ _ _ I;rw[bN]at E;subst E;have z:(Instr.keyThatStays (((j[i]?).map (·.key)).getD (ρ k)) (ρ k)).run P w= .ok (ρ k) w:=by
      have h1:j[i]? = some en:=by simpa using Y
      rw[h1];simp only[dH,Option.getD_some,Instr.keyThatStays,Ei S 9999,if_true];rfl
     simp only[execOp,ho,D,Instr.mapUpdate,Sem.run_bind,cJ Z,Result.andThen_ok,ig C l,run_checkKey hd A,J,z,ri C l];rfl
   | none=>
     have h:(eF (cS c) λc'=>fQ (bits b) H (some (.map (es++[⟨M,xv,c⟩]) c')) λH=>iV.val undef H nx)= .val v H' nx':=h;rw[bW,bQ]at h;cases h;refine K _ (j.push { key:=ρ k,val:=ρ x,born:=c }) (c+1) (by rw[Array.toList_push];exact p.append (.cons ⟨s,G,rfl⟩ .nil)) ?_;simp only[execOp,ho,D,Instr.mapUpdate,Sem.run_bind,cJ Z,Result.andThen_ok,ig C l,run_checkKey hd A,J,ri C l];rfl
theorem uI.filter {l l':List MapEntry}(h:uI φ l l')(p:Nat->Bool):uI φ (l.filter λe=>p e.born) (l'.filter λe=>p e.born):=by
 induction h with
 | nil=>exact .nil
 | @cons e e' l l' b hl a=>
   simp only[List.filter_cons,b.born];split
   . exact .cons b a
   . exact a
theorem uI.all {l l':List MapEntry}(h:uI φ l l')(p:Nat->Bool):(l'.all λe=>p e.born)=(l.all λe=>p e.born):=by
 induction h with
 | nil=>rfl
 | cons a _ b=>simp only[cW,a.born,b]
theorem Sh (hH:HR P W φ (hp H) w)(ej:φ.length=nx){x:Operand}{isS:Bool}(ho:o.op= .next x isS)(hE:∀v,cZ P tm x=some v->VR φ v (ρ x))
 (h:F8 H nx (cZ P tm x) isS= .val v H' nx'):mG P W φ H w ((execOp ρ o).run P w) v H' nx':=by
 unfold F8 at h;cases isS with
 | true=>cases h
 | false=>
   have h:DS (cZ P tm x) (λr off=>bif ay off 0 then xw (H.get (bits r)) (λm d j n=>match m with
    | none=>iV.val (.tuple #[.bool false]) H nx
    | some m=>zX H nx r m d n j) .bad else .bad) .bad= .val v H' nx':=h
   obtain⟨r,off,hx,h⟩:=xO h;obtain⟨h0,h⟩:=fX h;have h0:=beq_eq h0;subst h0;obtain⟨m,d,j,n,hg,h⟩:=Ai h;obtain⟨e,hb,_,M⟩:=(hE _ hx).iR;have O:hp H r=some (.iter m d j n):=hg;obtain⟨hab,m',p,Q,u,G⟩:=hH.obj r _ e O hb;have C:∀c' Y f,Obj.mapIter m' d p n ≠ .cells c' Y f:=λ_ _ _=>by simp
   have E:(execOp ρ o).run P w= .ok (.value (.tuple #[.bool false])) w->mG P W φ H w ((execOp ρ o).run P w) (.tuple #[.bool false]) H nx:=λA=>
    ⟨φ,_,w,_,A,.inl rfl,.flat _ rfl,φ.le_refl,hH,ej,jz.refl _ _⟩
   cases m with
   | none=>
     cases m' with
     | some _=>exact G.elim
     | none=>
       have h:iV.val (.tuple #[.bool false]) H nx= .val v H' nx':=h;cases h;refine E ?_;simp only[execOp,ho,M,Instr.next,Sem.run_bind,ig Q C,Result.andThen_ok];rfl
   | some m=>
     cases m' with
     | none=>exact G.elim
     | some m'=>
       obtain⟨V,S,rfl⟩:=G;have h:zX H nx r m d n j= .val v H' nx':=h;unfold zX at h;obtain⟨es,c,Z,h⟩:=sj h;obtain⟨_,s,R,J⟩:=hH.obj m _ V (show hp H m=some (.map es c)from Z) S;have D:∀c' Y f,Obj.map s c ≠ .cells c' Y f:=λ_ _ _=>by simp
       cases B: !j.isEmpty && !es.isEmpty&&es.all (λe=>bj n e.born)with
       | true=>rw[B]at h;cases h
       | false=>
         rw[B]at h;have h:F7 H nx r m d c j (es.filter λe=> !j.contains e.born)= .val v H' nx':=h;have hsn:∀b,p.contains b=j.contains b:=λb=>by rw[<- u];simp
         have h1:p.isEmpty=j.isEmpty:=by rw[<- u];simp
         have h2:s.isEmpty=es.isEmpty:=by
          have N:=J.length;have:s.toList.isEmpty=es.isEmpty:=by
           cases es with
           | nil=>cases hq:s.toList with
             | nil=>rfl
             | cons a l=>rw[hq]at N;simp at N
           | cons a l=>cases hq:s.toList with
             | nil=>rw[hq]at N;simp at N
             | cons b m=>rfl
          rw[<- this];simp
         have h3:(s.all λe=>decide (e.born>=n))=es.all (λe=>bj n e.born):=by
          have:=J.all (λb=>decide (b>=n));rw[<- Array.all_toList,this];congr 1;funext e;rw[dk];simp only[decide_eq_true_eq];exact⟨λq=>av q,λq=>fI q⟩
         have K:(!p.isEmpty && !s.isEmpty&&s.all (λe=>decide (e.born>=n)))=false:=by rw[h1,h2,h3];exact B
         have y:¬((!p.isEmpty && !s.isEmpty&&s.all (λe=>decide (e.born>=n)))=true):=by rw[K];decide
         have t:=J.filter (λb=> !j.contains b);have F:s.filter (λe=> !p.contains e.born)=(s.toList.filter λe=> !j.contains e.born).toArray:=by
          apply eU;simp only[Array.toList_filter,hsn]
         generalize hL:(s.toList.filter λe=> !j.contains e.born)=L' at t F;generalize hLo:(es.filter λe=> !j.contains e.born)=L at t h;cases t with
         | nil=>
           have h:iV.val (.tuple #[.bool false]) H nx= .val v H' nx':=h;cases h;refine E ?_;simp only[execOp,ho,M,Instr.next,Sem.run_bind,ig Q C,ig R D,Result.andThen_ok];rw[if_neg y,F];simp[Question.forced]
         | @cons X z l l' I N=>
           cases l with
           | cons _ _=>cases h
           | nil=>
             cases N;obtain⟨U,h⟩:=fX (show(bif bY X.born d then fQ (bits r) H (some (.iter (some m) d (j++[X.born]) c)) (λH=>iV.val (.tuple #[.bool true,X.key,X.val]) H nx)else .bad)= .val v H' nx' from h);rw[bQ]at h;cases h;have U:=iZ U;have hb1:=I.born;have A:(execOp ρ o).run P w= .ok (.value (.tuple #[.bool true,z.key,z.val])) { w with heap:=w.heap.setIfInBounds e.r (.mapIter (some V.r) d (p.push z.born) c) }:=by
              have c1:¬(d<=z.born):=by omega
              have c2:z.born<d:=by omega
              simp only[execOp,ho,M,Instr.next,Sem.run_bind,ig Q C,ig R D,Result.andThen_ok];rw[if_neg y,F];simp[Question.forced,c1,c2,ri Q C]
             refine⟨φ,_,_,_,A,.inl rfl,(LR.cons (.flat (.bool true) rfl) (LR.cons I.key (LR.cons I.val LR.nil))).tuple,φ.le_refl,?_,ej,by rw[dc];exact Eh hb _⟩;rw[dc];exact hH.setObj O rfl hb _ ⟨hab,some V.r,p.push z.born,heap_set Q,by rw[Array.toList_push,u,hb1],V,S,rfl⟩
theorem uI.find {l l':List MapEntry}(h:uI φ l l')(c:Nat){e:MapEntry}(b:l.find? (λe=>e.born == c)=some e):∃m,l'.find? (λe=>e.born == c)=some m/\MER φ e m:=by
 induction h with
 | nil=>cases b
 | @cons a n l l' d _ p=>
   simp only[List.find?_cons,d.born]at b ⊢;cases j:a.born == c with
   | true=>rw[j]at b;cases b;exact⟨n,rfl,d⟩
   | false=>rw[j]at b;exact p b
theorem Nc (hH:HR P W φ (hp H) w)(ej:φ.length=nx){x:Operand}(O:o.op= .entry x)(S:∀v,cZ P tm x=some v->VR φ v (ρ x))
 (h:A_ H nx (cZ P tm x)= .val v H' nx'):mG P W φ H w ((execOp ρ o).run P w) v H' nx':=by
 unfold A_ at h;obtain⟨r,off,hx,h⟩:=xO h;obtain⟨C,h⟩:=fX h;have C:=beq_eq C;subst C;obtain⟨m,a,q,last,U,h⟩:=Ai h;cases m with
 | none=>cases h
 | some m=>
 rw[aZ]at h;obtain⟨u,y,h⟩:=eI h;obtain⟨es,c,B,h⟩:=sj h;obtain⟨G,l⟩:=fX h;have G:=beq_eq G;subst G;obtain⟨e,Q,_,L⟩:=(S _ hx).iR;obtain⟨hab,m',b,R,j,p⟩:=hH.obj r _ e (show hp H r=some (.iter (some m) a q c)from U) Q;cases m' with
 | none=>exact p.elim
 | some m'=>
   obtain⟨N,E,rfl⟩:=p;obtain⟨_,t,D,F⟩:=hH.obj m _ N (show hp H m=some (.map es c)from B) E;have K:∀c' A f,Obj.mapIter (some N.r) a b c ≠ .cells c' A f:=λ_ _ _=>by simp
   have n:∀c' A f,Obj.map t c ≠ .cells c' A f:=λ_ _ _=>by simp
   have d:b.back? = some u:=by rw[<- y,<- j];simp
   unfold A9 at l;cases z:es.find? (λe=>e.born == u)with
   | none=>simp only[z]at l;cases l
   | some e1=>
     simp only[z]at l;cases l;obtain⟨I,J,s⟩:=F.find u z;have M:t.find? (λe=>e.born == u)=some I:=by simpa using J
     refine⟨φ,_,w,_,?_,.inl rfl,(LR.cons s.key (LR.cons s.val LR.nil)).tuple,φ.le_refl,hH,ej,jz.refl _ _⟩;simp[execOp,O,L,Instr.entry,ig R K,ig D n,d,M]
theorem xR (hH:HR P W φ (hp H) w)(ej:φ.length=nx)(j:tv P φ tm ρ o.op.operands.toList)(h:ef P H nx tm o= .val v H' nx'):
 mG P W φ H w ((execOp ρ o).run P w) v H' nx':=by
 unfold ef at h;cases d:o.op with
 | alloc e=>simp only[d]at h;exact Na hH ej d h
 | box e x=>simp only[d]at h;exact XP hH ej d (λv n=>j x (by rw[d];simp[Op.operands]) v n) h
 | store t a x=>simp only[d]at h;exact Ed hH ej d (by rw[d]at j;exact j) h
 | buildSlice t len ps=>simp only[d]at h;exact zG hH ej d j h
 | makeSlice t l c=>simp only[d]at h;exact Bm hH ej d (by rw[d]at j;exact j) h
 | makeMap t r=>
   simp only[d]at h;cases r with
   | none=>exact Gr hH ej d h
   | some x=>cases h
 | mapUpdate t m k x=>simp only[d]at h;exact sk hH ej d (by rw[d]at j;exact j) h
 | insert t m k x=>
   simp only[d]at h;have q:=sk (o:={ o with op:= .mapUpdate t m k x }) hH ej rfl (by rw[d]at j;exact j) h;have e:execOp ρ o=execOp ρ { o with op:= .mapUpdate t m k x }:=by simp only[execOp,d]
   rw[e];exact q
 | range t x=>simp only[d]at h;exact Nb hH ej d (λv n=>j x (by rw[d];simp[Op.operands]) v n) h
 | next x b=>simp only[d]at h;exact Sh hH ej d (λv n=>j x (by rw[d];simp[Op.operands]) v n) h
 | entry x=>simp only[d]at h;exact Nc hH ej d (λv n=>j x (by rw[d];simp[Op.operands]) v n) h
 | defer c=>
   simp only[d]at h;unfold nu at h;split at h<;>cases h
 | panic x=>
   simp only[d]at h;unfold F9 at h;split at h<;>cases h
 | call c=>
   simp only[d]at h;unfold lg at h;split at h
   . unfold DX at h;split at h
     . obtain⟨l,_,h⟩:=eI h;obtain⟨_,h⟩:=fX h;cases h
     . cases h
   . rename_i p;exact LC hH ej p d (λx hx v n=>j x (by rw[d];simp[Op.operands,Call.operands,p];simpa using hx) v n) h
   . cases h
   . cases h
   . cases h
 | _=>simp only[d]at h;cases h
theorem LF {α:Type}{x:Option α}{k:α->iV}{f:FuncId}{l:List Value}(h:aw x k .bad= .call f l):∃a,x=some a/\k a= .call f l:=by
 cases x with
 | none=>cases h
 | some a=>exact⟨a,rfl,h⟩
theorem Nd {b:Bool}{x:iV}{f:FuncId}{l:List Value}(h:(bif b then x else .bad)= .call f l):b=true/\x= .call f l:=by
 cases b
 . cases h
 . exact⟨rfl,h⟩
theorem Gs {f:FuncId}(h:oC P f=true):∃fn,P.funcs[f]? = some fn/\fn.body.isSome=true/\(fn.name == "runtime.NumGoroutine")=false:=by
 unfold oC at h;split at h
 . rename_i fn a;simp only[ae,dY]at h;exact⟨fn,a,h.1,h.2⟩
 . cases h
theorem sn {f:FuncId}(h:oC P f=true)(a:Array Value)(w:World):(callFunc f a).run P w= .ok (.enter f a) w:=by
 obtain⟨fn,c,h2,d⟩:=Gs h;have b:fn.body.isNone=false:=by cases hb:fn.body<;>simp_all
 simp only[callFunc,Sem.run_bind,run_program,Result.andThen_ok,c];simp[d,b]
theorem Ej {c:Call}{e:Operand}(p:tv P φ tm ρ (e::c.args.toList)){f:FuncId}{l:List Value}(h:DX P (cZ P tm e) (ve P tm c.args.toList)= .call f l):
 ∃q a,ρ e= .func (.func f) #[] ⟨a⟩/\q=c.args.toList.map ρ/\LR φ l (q++a)/\oC P f=true:=by
 unfold DX at h;split at h
 . rename_i g cap s;obtain⟨vs,n,h⟩:=LF h;obtain⟨m,h⟩:=Nd h;cases h;obtain⟨a,j,d⟩:=(p e (by simp) _ s).M1;have b:=tG _ _ (λx hx=>p x (by simp[hx])) n;exact⟨_,a,j,rfl,b.append d,m⟩
 . cases h
def PL (e:iV):Prop:=match e with
 | .val _ _ _=>True
 | .bad=>True
 | _=>False
theorem fN {α:Type}{x:Option α}{k:α->iV}(h:∀a,PL (k a)):PL (aw x k .bad):=by
 cases x with
 | none=>trivial
 | some a=>exact h a
theorem gh {b:Bool}{x y:iV}(h:PL x)(a:PL y):PL (bif b then x else y):=by
 cases b
 . exact a
 . exact h
theorem xS {H:T OB}{nx:Nat}{e:TypeId}{m:Nat}{l:List Value}:PL (kD H nx e m l):=by rw[kU];trivial
theorem rj {t:TypeId}{k:TypeId->Nat->iV}(h:∀e s,PL (k e s)):PL (fU P t k .bad):=by
 unfold fU;split
 . exact fN λs=>h _ s
 . trivial
theorem Aj {x:Option OB}{k:Nat->T Value->TypeId->iV}(h:∀n t e,PL (k n t e)):PL (gM x k .bad):=by
 unfold gM;split
 . exact h _ _ _
 . trivial
theorem Bn {x:Option Value}{k:Nat->Nat->iV}(h:∀a b,PL (k a b)):PL (DS x k .bad):=by
 unfold DS;split
 . exact h _ _
 . trivial
theorem so {x:Option OB}{k:List MapEntry->Nat->iV}(h:∀a b,PL (k a b)):PL (A7 x k .bad):=by
 unfold A7;split
 . exact h _ _
 . trivial
theorem Ek {x:Option OB}{k:Option Nat->Nat->List Nat->Nat->iV}(h:∀a b c d,PL (k a b c d)):PL (xw x k .bad):=by
 unfold xw;split
 . exact h _ _ _ _
 . trivial
theorem El {t:TypeId}{k:TypeDesc->TypeId->iV}(h:∀a b,PL (k a b)):PL (qE P t k .bad):=by
 unfold qE;split
 . exact fN λd=>gh (h _ _) trivial
 . trivial
theorem Ib {e:TypeId}{s c d h:Nat}{a:Option Addr}{xs:List Value}:PL (rU P H nx e s a c d h xs):=by
 unfold rU;split
 . exact gh (gh trivial xS) trivial
 . unfold zD;refine Aj λn tr el=>gh ?_ (gh ?_ ?_)
   . unfold XA;refine gh (fN λb=> ?_) trivial;rw[bQ];exact xS
   . unfold Lq;refine gh ?_ trivial;rw[fW,bQ,bW]
     trivial
   . unfold uH;exact gh (fN λb=>xS) trivial
 . trivial
theorem Ak {ts:List TypeId}{l:Option (List Value)}:PL (fe P H nx ts l):=by
 unfold fe;split
 . exact gh (rj λe s=>gh Ib trivial) trivial
 . unfold rV;split
   . exact gh trivial (rj λe s=>fN λp=>gh Ib trivial)
   . trivial
theorem Ic {b:Nat}{es:List MapEntry}{c:Nat}{k v:Value}{r:Option (Option (Nat×Value))}:PL (MS H nx b es c k v r):=by
 unfold MS;split
 . rw[bQ];trivial
 . rw[bW,bQ];trivial
 . trivial
theorem xT {m:Option Nat}{c:Nat}:PL (po H nx m c):=by unfold po;rw[bQ,bW];trivial
theorem Nf {r m a d:Nat}{b:List Nat}:PL (zX H nx r m a d b):=by
 unfold zX;refine so λes c=>gh trivial ?_;unfold F7;split
 . trivial
 . refine gh ?_ trivial;rw[bQ];trivial
 . trivial
theorem LG {es:List MapEntry}{a:Nat}:PL (A9 H nx es a):=by
 unfold A9;split<;>trivial
theorem xU {c:Call}{f:FuncId}{l:List Value}(h:lg P H nx tm c= .call f l):∃a,c.callee= .value a/\DX P (cZ P tm a) (ve P tm c.args.toList)= .call f l:=by
 unfold lg at h;split at h
 . rename_i a b;exact⟨a,b,h⟩
 . have:=Ak (P:=P) (H:=H) (nx:=nx) (ts:=c.argTypes.toList) (l:=ve P tm c.args.toList);rw[h]at this;exact this.elim
 . cases h
 . cases h
 . cases h
theorem Ng (p:∀c,o.op ≠ .call c)(u:∀c,o.op ≠ .defer c)(y:∀x,o.op ≠ .panic x):PL (ef P H nx tm o):=by
 unfold ef;cases h:o.op with
 | call c=>exact absurd h (p c)
 | defer c=>exact absurd h (u c)
 | panic x=>exact absurd h (y x)
 | alloc e=>
   refine fN λl=> ?_;rw[iS];trivial
 | box e x=>
   refine fN λl=> ?_;rw[iS];trivial
 | store t a x=>
   refine Bn λb off=>fN λv=>Aj λn tr e=>fN λs=>gh ?_ trivial;rw[fW,bQ];trivial
 | buildSlice t len ps=>
   refine fN λvs=>rj λe s=>fN λz=>gh (fN λcs=> ?_) trivial;rw[iS,bW];trivial
 | makeSlice t a c=>
   show PL (k0 P H nx t (cZ P tm a) (cZ P tm c));unfold k0;split
   . rename_i i j e _ _ _;cases i with
     | negSucc i=>exact trivial
     | ofNat i=>
     cases j with
     | negSucc j=>
       show PL (lI ((i:Nat):Int) (λl=>lI (Int.negSucc j) (λc=>Lp P H nx e l c) .bad) .bad);rw[iY];exact trivial
     | ofNat j=>
     show PL (lI ((i:Nat):Int) (λl=>lI ((j:Nat):Int) (λc=>Lp P H nx e l c) .bad) .bad);rw[iY,iY];unfold Lp;split
     . refine gh ?_ trivial;split
       . rw[bQ,bW];trivial
       . refine gh ?_ trivial;rw[iS];trivial
     . trivial
   . trivial
 | makeMap t r=>
   cases r with
   | none=>
     show PL (fQ (bits nx) H (some (.map [] 0)) λH=>eF (cS nx) λn=>iV.val (.map (some nx)) H n);rw[bQ,bW];trivial
   | some x=>trivial
 | mapUpdate t m k x=>exact El λd q=>fN λb=>fN λk=>fN λv=>so λes c=>Ic
 | insert t m k x=>exact El λd q=>fN λb=>fN λk=>fN λv=>so λes c=>Ic
 | range t x=>
   refine gh ?_ trivial;split
   . exact xT
   . exact so λes c=>xT
   . trivial
 | next x b=>
   refine gh trivial (Bn λr off=>gh (Ek λm s l c=> ?_) trivial);cases m with
   | none=>trivial
   | some m=>exact Nf
 | entry x=>exact Bn λr off=>gh (Ek λm s l c=>fN λm=>fN λst=>so λes c=>gh LG trivial) trivial
 | _=>trivial
theorem Ie {e:iV}(h:ef P H nx tm o=e)(hp:¬PL e):(∃c,o.op= .call c/\lg P H nx tm c=e)\/(∃c,o.op= .defer c/\nu (lg P H nx tm c)=e)\/
 (∃x,o.op= .panic x/\F9 (cZ P tm x)=e):=by
 by_cases b:∃c,o.op= .call c
 . obtain⟨c,a⟩:=b;refine .inl ⟨c,a,?_⟩;rw[<- h];unfold ef;simp only[a]
 . by_cases d:∃c,o.op= .defer c
   . obtain⟨c,a⟩:=d;refine .inr (.inl ⟨c,a,?_⟩);rw[<- h];unfold ef;simp only[a]
   . by_cases j:∃x,o.op= .panic x
     . obtain⟨x,hx⟩:=j;refine .inr (.inr ⟨x,hx,?_⟩);rw[<- h];unfold ef;simp only[hx]
     . have:=Ng (P:=P) (H:=H) (nx:=nx) (tm:=tm) (o:=o) (λc q=>b ⟨c,q⟩) (λc q=>d ⟨c,q⟩) (λc q=>j ⟨c,q⟩);rw[h]at this;exact absurd this hp
theorem LH {f:Option Value}{l:Option (List Value)}:(∃g a,DX P f l= .call g a)\/DX P f l= .bad:=by
 unfold DX;split
 . cases l with
   | none=>exact .inr rfl
   | some l=>
     rw[aZ];rename_i g cap;cases oC P g with
     | true=>exact .inl ⟨_,_,rfl⟩
     | false=>exact .inr rfl
 . exact .inr rfl
theorem rl {c:Call}:(∀f l,lg P H nx tm c ≠ .dfr f l)/\(∀v,lg P H nx tm c ≠ .j_ v)/\(lg P H nx tm c= .rcv->c.callee= .builtin .recover):=by
 unfold lg;split
 . rcases LH (P:=P) (f:=cZ P tm _) (l:=ve P tm c.args.toList)with⟨g,a,h⟩ | h
   . rw[h];exact⟨λ_ _ q=>(nomatch q),λ_ q=>(nomatch q),λq=>(nomatch q)⟩
   . rw[h];exact⟨λ_ _ q=>(nomatch q),λ_ q=>(nomatch q),λq=>(nomatch q)⟩
 . have:=Ak (P:=P) (H:=H) (nx:=nx) (ts:=c.argTypes.toList) (l:=ve P tm c.args.toList);refine⟨λf l q=> ?_,λv q=> ?_,λq=> ?_⟩<;>(rw[q]at this;exact this.elim)
 . rename_i b;exact⟨λ_ _ q=>(nomatch q),λ_ q=>(nomatch q),λ_=>b⟩
 . exact⟨λ_ _ q=>(nomatch q),λ_ q=>(nomatch q),λq=>(nomatch q)⟩
 . exact⟨λ_ _ q=>(nomatch q),λ_ q=>(nomatch q),λq=>(nomatch q)⟩
theorem Ig {f:FuncId}{l:List Value}(m:tv P φ tm ρ o.op.operands.toList)(h:ef P H nx tm o= .call f l):
 ∃l',LR φ l l'/\oC P f=true/\∀w,(execOp ρ o).run P w= .ok (.enter f l'.toArray) w:=by
 obtain⟨c,p,h⟩:∃c,o.op= .call c/\lg P H nx tm c= .call f l:=by
  rcases Ie h (λq=>q)with q | ⟨c,_,q⟩ | ⟨x,_,q⟩
  . exact q
  . unfold nu at q;split at q<;>cases q
  . unfold F9 at q;split at q<;>cases q
 obtain⟨t,n,h⟩:=xU h;have b:o.op.operands.toList=t::c.args.toList:=by rw[p];simp[Op.operands,Call.operands,n]
 rw[b]at m;obtain⟨a',a,e,rfl,j,d⟩:=Ej m h;refine⟨_,j,d,λw=> ?_⟩;have s:(c.args.map ρ++⟨a⟩:Array Value)=(c.args.toList.map ρ++a).toArray:=eU (by simp);simp only[execOp,p,resolve,n,e,Deferred.ofValue,Sem.run_bind,Sem.run_pure,Result.andThen_ok,invoke];simp[sn d,s]
def DfR (P:Program)(φ:fq)(d:FuncId×List Value)(c:Deferred):Prop:=∃b a,c={ target:= .fn (.func d.1) ⟨a⟩,args:=b }/\LR φ d.2 (b.toList++a)/\oC P d.1=true
theorem DfR.mono {φ':fq}(j:φ.le φ'){d:FuncId×List Value}{l:Deferred}(h:DfR P φ d l):DfR P φ' d l:=by
 obtain⟨a,b,c,d,e⟩:=h;exact⟨a,b,c,d.mono j,e⟩
theorem XR {f:FuncId}{l:List Value}(p:tv P φ tm ρ o.op.operands.toList)(h:ef P H nx tm o= .dfr f l):∃s,DfR P φ (f,l) s/\∀w,(execOp ρ o).run P w= .ok (.defer s) w:=by
 rcases Ie h (λq=>q)with⟨c,_,q⟩ | ⟨c,u,q⟩ | ⟨x,_,q⟩
 . exact absurd q (rl.1 f l)
 . unfold nu at q;split at q
   . rename_i g a z;cases q;obtain⟨y,t,n⟩:=xU z;have b:o.op.operands.toList=y::c.args.toList:=by rw[u];simp[Op.operands,Call.operands,t]
     rw[b]at p;obtain⟨a',d,e,rfl,m,j⟩:=Ej p n;refine⟨_,⟨c.args.map ρ,d,rfl,by simpa using m,j⟩,λw=> ?_⟩;simp[execOp,u,resolve,t,e,Deferred.ofValue]
   . cases q
 . unfold F9 at q;split at q<;>cases q
theorem Nh {v:Value}(d:tv P φ tm ρ o.op.operands.toList)(h:ef P H nx tm o= .j_ v):∃a,VR φ v a/\∀w,(execOp ρ o).run P w= .halt (.panic a) w:=by
 rcases Ie h (λq=>q)with⟨c,_,q⟩ | ⟨c,_,q⟩ | ⟨x,b,q⟩
 . exact absurd q (rl.2.1 v)
 . unfold nu at q;split at q<;>cases q
 . unfold F9 at q;split at q
   . rename_i t u hx;cases q;obtain⟨u',j,e⟩:=(d x (by rw[b];simp[Op.operands]) _ hx).mS;exact⟨_,.iface e,λw=>by simp[execOp,b,j,Instr.panic]⟩
   . cases q
theorem XS (h:ef P H nx tm o= .rcv)(w:World):(execOp ρ o).run P w= .ok .recover w:=by
 rcases Ie h (λq=>q)with⟨c,b,q⟩ | ⟨c,_,q⟩ | ⟨x,_,q⟩
 . have a:=rl.2.2 q;simp[execOp,b,resolve,a,invoke,builtin]
 . unfold nu at q;split at q<;>cases q
 . unfold F9 at q;split at q<;>cases q
end ops
end
end
end Go.Ev
namespace Go.Ev
noncomputable section
set_option maxRecDepth 100000
set_option linter.unusedVariables false
set_option linter.unusedSimpArgs false
section
variable {P:Program}{H H':T OB}{tm tm':T Value}
theorem oL:∀(ps:List (Nat×Operand)),(∀p∈ps,cZ P tm' p.2=cZ P tm p.2)->parts P tm' ps=parts P tm ps
 | [],_=>rfl
 | p::ps,h=>by simp only[parts,h p (by simp),oL ps (λq a=>h q (by simp[a]))]
theorem tM:∀(l:List Operand),(∀x∈l,cZ P tm' x=cZ P tm x)->ve P tm' l=ve P tm l
 | [],_=>rfl
 | x::l,h=>by simp only[ve,h x (by simp),tM l (λy a=>h y (by simp[a]))]
theorem rm {x:Option Operand}(h:∀y∈x.toList,cZ P tm' y=cZ P tm y):j8 P tm' x=j8 P tm x:=by
 cases x with
 | none=>rfl
 | some y=>simp only[j8,h y (by simp)]
theorem Ni {o:Oper}(h:∀x∈o.op.operands.toList,cZ P tm' x=cZ P tm x):rd P H tm' o=rd P H tm o:=by
 unfold rd;cases e:o.op with
 | move x=>simp only[e]at h;exact h x (by simp[Op.operands])
 | assign x=>simp only[e]at h;exact h x (by simp[Op.operands])
 | pick c a b=>
   simp only[e]at h;show xj (cZ P tm' c) (cZ P tm' a) (cZ P tm' b)=xj (cZ P tm c) (cZ P tm a) (cZ P tm b);rw[h c (by simp[Op.operands]),h a (by simp[Op.operands]),h b (by simp[Op.operands])]
 | load t x=>simp only[e]at h;show aA P H t (cZ P tm' x)=aA P H t (cZ P tm x);rw[h x (by simp[Op.operands])]
 | nilCheck x=>simp only[e]at h;show rT (cZ P tm' x)=rT (cZ P tm x);rw[h x (by simp[Op.operands])]
 | fieldAddr s x f=>simp only[e]at h;show aq P s (cZ P tm' x) f=aq P s (cZ P tm x) f;rw[h x (by simp[Op.operands])]
 | indexAddr t x l=>
   simp only[e]at h;show cq P t (cZ P tm' x) (cZ P tm' l)=cq P t (cZ P tm x) (cZ P tm l);rw[h x (by simp[Op.operands]),h l (by simp[Op.operands])]
 | extract x i=>simp only[e]at h;show bH (cZ P tm' x) i=bH (cZ P tm x) i;rw[h x (by simp[Op.operands])]
 | field t x f=>simp only[e]at h;show rdField P t (cZ P tm' x) f=rdField P t (cZ P tm x) f;rw[h x (by simp[Op.operands])]
 | slice t x lo hi mx=>
   have q:o.op.operands.toList=[x]++lo.toList++hi.toList++mx.toList:=by rw[e];cases lo<;>cases hi<;>cases mx<;>rfl
   rw[q]at h;show cw P H t (cZ P tm' x) (j8 P tm' lo) (j8 P tm' hi) (j8 P tm' mx)=cw P H t (cZ P tm x) (j8 P tm lo) (j8 P tm hi) (j8 P tm mx);rw[h x (by simp),rm (x:=lo) (λy n=>h y (by simp[n])),rm (x:=hi) (λy n=>h y (by simp[n])),rm (x:=mx) (λy n=>h y (by simp[n]))]
 | call c=>
   show xr P tm' o c=xr P tm o c;unfold xr;split
   all_goals first
    | rfl
    | (rename_i z
       rw[tM c.args.toList (λx hx=>h x (by rw[e];simp[Op.operands,Call.operands,z];simpa using hx))])
 | makeFunc fn a b=>
   show xo fn a.toList (ve P tm' b.toList)=xo fn a.toList (ve P tm b.toList);rw[tM b.toList (λx hx=>h x (by rw[e];simp[Op.operands];right;simpa using hx))]
 | typeAssert x xt t u=>simp only[e]at h;show lK P (cZ P tm' x) t u=lK P (cZ P tm x) t u;rw[h x (by simp[Op.operands])]
 | lookup t m k u=>
   simp only[e]at h;show eA P H t (cZ P tm' m) (cZ P tm' k) u=eA P H t (cZ P tm m) (cZ P tm k) u;rw[h m (by simp[Op.operands]),h k (by simp[Op.operands])]
 | convert s d x=>simp only[e]at h;show ec P H s d (cZ P tm' x)=ec P H s d (cZ P tm x);rw[h x (by simp[Op.operands])]
 | index t x l=>
   simp only[e]at h;show eB P t (cZ P tm' x) (cZ P tm' l)=eB P t (cZ P tm x) (cZ P tm l);rw[h x (by simp[Op.operands]),h l (by simp[Op.operands])]
 | binOp j t x y yt=>
   simp only[e]at h;show dx P H j t (zC x||zC y) (cZ P tm' x) (cZ P tm' y)=dx P H j t (zC x||zC y) (cZ P tm x) (cZ P tm y);rw[h x (by simp[Op.operands]),h y (by simp[Op.operands])]
 | build t ps=>
   simp only[e]at h;show cA P t (parts P tm' ps.toList)=cA P t (parts P tm ps.toList);rw[oL ps.toList (λp hp=>h p.2 (by
    show p.2∈((ps.toList.map (·.2)).toArray).toList;simp only[List.toList_toArray];exact bo.2 ⟨p,hp,rfl⟩))]
 | makeInterface t x=>simp only[e]at h;show nr P t (cZ P tm' x)=nr P t (cZ P tm x);rw[h x (by simp[Op.operands])]
 | unOp j _ x=>simp only[e]at h;show HP P j (cZ P tm' x)=HP P j (cZ P tm x);rw[h x (by simp[Op.operands])]
 | _=>rfl
theorem Ih {o:Oper}(h:rW o.op=false):rd P H' tm o=rd P H tm o:=by
 unfold rd;cases a:o.op with
 | load t x=>rw[a]at h;cases h
 | slice t x lo hi mx=>rw[a]at h;cases h
 | lookup t m k ok=>rw[a]at h;cases h
 | convert s d x=>rw[a]at h;cases h
 | binOp b t x y yt=>rw[a]at h;cases h
 | _=>rfl
theorem zJ {ops:Array Oper}{o:Oper}(h:∀p,o.guard=some p->∀d,mP ops p.1=some d->tm'.get (bits d)=tm.get (bits d)):dX tm' ops o=dX tm ops o:=by
 unfold dX;split
 . rfl
 . rename_i p hp;cases hd:mP ops p.1 with
   | none=>rfl
   | some d=>
     show oD tm' d p.2=oD tm d p.2;unfold oD;rw[h p hp d hd]
theorem xV {c:Value->Value->Bool}(h:∀a b,c a b=true->a=b):∀(l m:List Value),MV c l m=true->l=m
 | [],[],_=>rfl
 | a::l,b::m,q=>by
   simp only[MV,ae]at q;rw[h a b q.1,xV h l m q.2]
 | [],_::_,q=>by cases q
 | _::_,[],q=>by cases q
theorem xW:∀(n:Nat) (v w:Value),Lr n v w=true->v=w
 | 0,_,_,h=>by cases h
 | n+1,v,w,h=>by
   have c:=xW n;unfold Lr at h;split at h
   all_goals first
    | (cases h;done)
    | rfl
    | (simp only[ae,beq_iff_eq,decide_eq_true_eq]at h;simp_all;done)
    | (simp only[ae,beq_iff_eq]at h;rw[h.1,c _ _ h.2];done)
    | (rename_i a b;have:=xV c _ _ h;rw[Array.toList_inj]at this;rw[this];done)
theorem LI {v w:Value}(h:iW v w=true):v=w:=by
 unfold iW at h;simp only[bl,decide_eq_true_eq]at h;exact h.elim (xW 4 v w) id
theorem cg (v:Value):iW v v=true:=by unfold iW;simp
def xX (ops:Array Oper):List Nat->Prop
 | []=>True
 | i::l=>(∃o,ops[i]? = some o/\∀e∈o.after,Region.binds .any e=true->e.on∉i::l)/\i∉l/\xX ops l
theorem filter_lt {α:Type}(p q:α->Bool)(c:∀x,q x=true->p x=true):∀(l:List α) (x:α),x∈l->p x=true->q x=false->(l.filter q).length<(l.filter p).length
 | [],x,h,_,_=>by cases h
 | y::l,x,h,hp,hq=>by
   have hle:(l.filter q).length<=(l.filter p).length:=by
    clear h
    induction l with
    | nil=>simp
    | cons z l m=>
      by_cases b:q z=true
      . rw[j7 b,j7 (c z b)];simp only[ao];omega
      . rw[List.filter_cons_of_neg b]
        by_cases d:p z=true
        . rw[j7 d];simp only[ao];omega
        . rw[List.filter_cons_of_neg d];exact m
   by_cases j:y=x
   . subst j;simp[hp,hq];omega
   . have hx:x∈l:=by
      cases h with
      | head=>exact absurd rfl j
      | tail _ h=>exact h
     have m:=filter_lt p q c l x hx hp hq
     by_cases a:q y=true
     . simp[a,c y a];exact m
     . by_cases e:p y=true
       . simp[a,e];omega
       . simp[a,e];exact m
def unl (ops:Array Oper)(a:Array Bool):List Nat:=(fB ops.size).filter λi=> !a.getD i true
theorem XT (ops:Array Oper)(O:acyclic ops=true):∀(b t:Nat) (a:Array Bool),a.size=ops.size->(unl ops a).length<=b->
 xX ops (Region.linearise.go .any ops b t a [])/\(∀i∈Region.linearise.go .any ops b t a [],a.getD i true=false)/\
 (∀i,i<ops.size->a.getD i true=false->i∈Region.linearise.go .any ops b t a []):=by
 intro b
 induction b with
 | zero=>
   intro t a _ U;refine⟨trivial,λi hi=>by simp[Region.linearise.go]at hi,λi hi p=> ?_⟩;have:i∈unl ops a:=List.mem_filter.2 ⟨eg.2 hi,by simp only[p];rfl⟩;have:=List.length_pos_of_mem this;omega
 | succ b S=>
   intro t a oI U;simp only[Region.linearise.go];change (xX ops (match(Region.ready .any ops a)[t % (Region.ready .any ops a).length]? with
    | some i=>Region.linearise.go .any ops b (t/(Region.ready .any ops a).length) (a.setIfInBounds i true) [i]
    | none=>[].reverse))/\(∀i∈(match(Region.ready .any ops a)[t % (Region.ready .any ops a).length]? with
    | some i=>Region.linearise.go .any ops b (t/(Region.ready .any ops a).length) (a.setIfInBounds i true) [i]
    | none=>[].reverse),_)/\(∀i,_->_->i∈(match(Region.ready .any ops a)[t % (Region.ready .any ops a).length]? with
    | some i=>Region.linearise.go .any ops b (t/(Region.ready .any ops a).length) (a.setIfInBounds i true) [i]
    | none=>[].reverse))
   cases hi:(Region.ready .any ops a)[t % (Region.ready .any ops a).length]? with
   | none=>
     have B:Region.ready .any ops a=[]:=by
      cases V:Region.ready .any ops a with
      | nil=>rfl
      | cons x xs=>
        rw[V]at hi;have D:t % (x::xs).length<(x::xs).length:=dV _ (by simp);rw[au D]at hi;cases hi
     refine⟨trivial,λi h=>by simp at h,?_⟩;have I:∀n i,i<n->i<ops.size->a.getD i true=true:=by
      intro n
      induction n with
      | zero=>intro i h;omega
      | succ n N=>
        intro i h c;cases p:a.getD i true with
        | true=>rfl
        | false=>
          exfalso;have:i∈Region.ready .any ops a:=mem_ready.2 ⟨p,ops[i],cE c,λe K J=>by
           have G:=aM.1 O i (eg.2 c);rw[cE c]at G;have A:=aM.1 G e (by simpa using K);simp only[J,cM,bG]at A;have R:=iZ A;have z:=N e.on (by omega) (by omega);simpa[Array.getD,show e.on<a.size by omega]using z⟩
          rw[B]at this;cases this
     intro i c p;rw[I (i+1) i (by omega) c]at p;cases p
   | some i=>
     have E:=ak hi;obtain⟨p,o,Q,y⟩:=mem_ready.1 E;have c:i<ops.size:=(aU.1 Q).1;simp only[];rw[linearise_go_acc,List.reverse_singleton,List.singleton_append];have l:∀j,j≠i->(a.setIfInBounds i true).getD j true=a.getD j true:=λj u=>getD_set_ne true (Ne.symm u);have d:(a.setIfInBounds i true).getD i true=true:=by
      simp[Array.getD,show i<a.size by omega]
     have D:(unl ops (a.setIfInBounds i true)).length<(unl ops a).length:=by
      refine filter_lt _ _ (λx hx=> ?_) _ i (eg.2 c) (by simp only[p];rfl) (by simp only[d];rfl)
      by_cases F:x=i
      . subst F;rw[d]at hx;cases hx
      . rw[l x F]at hx;exact hx
     obtain⟨G,A,R⟩:=S (t/(Region.ready .any ops a).length) (a.setIfInBounds i true) (by simp[oI]) (by omega);have L:i∉Region.linearise.go .any ops b (t/(Region.ready .any ops a).length) (a.setIfInBounds i true) []:=λq=>by
      have:=A i q;rw[d]at this;cases this
     refine⟨⟨⟨o,Q,λe K J q=> ?_⟩,L,G⟩,λj u=> ?_,λj u M=> ?_⟩
     . have z:=y e K J;rcases aG.1 q with q | q
       . rw[q]at z;have s:=p;simp only[Array.getD]at z s;split at z<;>simp_all
       . have s:=A e.on q
         by_cases C:e.on=i
         . rw[C,d]at s;cases s
         . rw[l _ C]at s;simp only[Array.getD]at z s;split at z<;>simp_all
     . cases u with
       | head=>exact p
       | tail _ u=>
         have s:=A j u
         by_cases m:j=i
         . subst m;exact p
         . rw[l _ m]at s;exact s
     . by_cases m:j=i
       . subst m;simp
       . exact aH _ (R j u (by rw[l _ m];exact M))
theorem LJ (ops:Array Oper)(b:acyclic ops=true)(t:Nat):xX ops (Region.schedule true ops t)/\∀i,i<ops.size->i∈Region.schedule true ops t:=by
 have a:∀i,i<ops.size->(iG ops.size false).getD i true=false:=λi hi=>by simp[Array.getD,hi]
 have h:=XT ops b ops.size t (iG ops.size false) (by simp) (by
  unfold unl;exact ga (List.length_filter_le _ _) (by simp))
 have e:Region.schedule true ops t=Region.linearise.go .any ops ops.size t (iG ops.size false) []:=rfl;rw[e];exact⟨h.1,λi hi=>h.2.2 i hi (a i hi)⟩
end
end
end Go.Ev
namespace Go.Ev
open Go.RowKit (Below)
noncomputable section
set_option maxRecDepth 100000
set_option linter.unusedVariables false
set_option linter.unusedSimpArgs false
section
variable {P:Program}{W w:World}{φ:fq}{H:T OB}{tm:T Value}{tmps:Array Value}{ops:Array Oper}
structure FB where
 fn:FuncId
 kind:CallKind
 ds:List Deferred
def gv (b:FB)(tmps:Array Value)(todo:List Item):Frame:={ fn:=b.fn,tmps,todo,defers:=b.ds,mode:= .run,kind:=b.kind }
def gP (tmps:Array Value):Operand->Value:=Act.eval ⟨tmps,[]⟩
theorem Em (tmps:Array Value)(ds:List Deferred):Act.eval ⟨tmps,ds⟩=gP tmps:=by funext x;cases x<;>rfl
def mV (tmps:Array Value)(a:Option Tmp)(v:Value):Array Value:=match a with
 | some d=>tmps.setIfInBounds d v
 | none=>tmps
theorem Nj (tmps:Array Value)(ds:List Deferred)(a:Option Tmp)(v:Value):(Act.put ⟨tmps,ds⟩ a v)=⟨mV tmps a v,ds⟩:=by cases a<;>rfl
theorem iJ (tmps:Array Value)(a:Option Tmp)(v:Value):(mV tmps a v).size=tmps.size:=by cases a<;>simp[mV]
section steps
variable {fn:FB}{i:Nat}{rest:List Nat}{k:List Item}{cs:List Frame}{w':World}{o:Oper}
theorem rq (a:ops[i]? = some o)(v:Value):(gv fn tmps (.inRegion ops (i::rest)::k)).finish v=gv fn (mV tmps o.dst v) (.inRegion ops rest::k):=by
 have:=Frame.finish_at (gv fn #[] []) ⟨tmps,fn.ds⟩ ops i rest k v;rw[a]at this;rw[show((some o:Option Oper).bind (·.dst))=o.dst from rfl,Nj]at this;exact this
theorem Gt (c:ops[i]? = some o)(d:Region.wanted o (yielded ops tmps)=true):
 stepG P true { frame:=gv fn tmps (.inRegion ops (i::rest)::k),callers:=cs,status:= .running,dying:=none } w=
  stepG.apply P true (gv fn tmps (.inRegion ops (i::rest)::k)) cs none (execOp (gP tmps) o) w:=by
 have:=stepG_op (P:=P) (b:=gv fn #[] []) (a:=⟨tmps,fn.ds⟩) (cs:=cs) (w:=w) (k:=k) (rest:=rest) c d;rw[Em]at this;exact this
theorem ja (a:ops[i]? = some o)(b:Region.wanted o (yielded ops tmps)=true){v:Value}(c:(execOp (gP tmps) o).run P w= .ok (.value v) w'):
 step P (lone (gv fn tmps (.inRegion ops (i::rest)::k)) cs w)= .next (lone (gv fn (mV tmps o.dst v) (.inRegion ops rest::k)) cs w'):=
 step_lone_go (by rw[Gt a b,<- rq a];simp[stepG.apply,c])
theorem xY (a:ops[i]? = some o)(b:Region.wanted o (yielded ops tmps)=true)(c:(execOp (gP tmps) o).run P w= .ok .skip w'):
 step P (lone (gv fn tmps (.inRegion ops (i::rest)::k)) cs w)= .next (lone (gv fn (mV tmps o.dst undef) (.inRegion ops rest::k)) cs w'):=
 step_lone_go (by rw[Gt a b,<- rq a];simp[stepG.apply,c])
theorem nF (c:ops[i]? = some o)(b:Region.wanted o (yielded ops tmps)=true){f:FuncId}{a:Array Value}(d:(execOp (gP tmps) o).run P w= .ok (.enter f a) w'):
 step P (lone (gv fn tmps (.inRegion ops (i::rest)::k)) cs w)=
  .next (lone (Frame.enter P f a .normal) (gv fn tmps (.inRegion ops (i::rest)::k)::cs) w'):=
 step_lone_go (by rw[Gt c b];simp[stepG.apply,d,gv])
theorem Nk (a:ops[i]? = some o)(b:Region.wanted o (yielded ops tmps)=true){d:Deferred}(c:(execOp (gP tmps) o).run P w= .ok (.defer d) w'):
 step P (lone (gv fn tmps (.inRegion ops (i::rest)::k)) cs w)= .next (lone (gv ⟨fn.fn,fn.kind,d::fn.ds⟩ (mV tmps o.dst undef) (.inRegion ops rest::k)) cs w'):=
 step_lone_go (by
  rw[Gt a b,<- rq (fn:=⟨fn.fn,fn.kind,d::fn.ds⟩) a];simp only[stepG.apply,Sem.runT_eq,c,GStep.bare_after];rfl)
theorem En (b:ops[i]? = some o)(a:Region.wanted o (yielded ops tmps)=true){v:Value}(c:(execOp (gP tmps) o).run P w= .halt (.panic v) w'):
 step P (lone (gv fn tmps (.inRegion ops (i::rest)::k)) cs w)= .next (lone { gv fn tmps (.inRegion ops (i::rest)::k)with mode:= .panicking [{ v,recovered:=false }] } cs w'):=
 step_lone_go (by
  rw[Gt b a];simp only[stepG.apply,Sem.runT_eq,c,GStep.bare_after];rfl)
theorem zK (b:ops[i]? = some o)(c:Region.wanted o (yielded ops tmps)=true)(e:(execOp (gP tmps) o).run P w= .ok .recover w')
 (d:tryRecover (gv fn tmps (.inRegion ops (i::rest)::k)) cs=none):
 step P (lone (gv fn tmps (.inRegion ops (i::rest)::k)) cs w)= .next (lone (gv fn (mV tmps o.dst .nilIface) (.inRegion ops rest::k)) cs w'):=
 step_lone_go (by
  rw[Gt b c,<- rq b];have a:tryRecover { fn:=fn.fn,tmps,todo:= .inRegion ops (i::rest)::k,defers:=fn.ds,mode:= .run,kind:=fn.kind } cs=none:=d;simp[stepG.apply,e,gv,a])
theorem zL (c:ops[i]? = some o)(d:Region.wanted o (yielded ops tmps)=true)(h:(execOp (gP tmps) o).run P w= .ok .recover w'){v:Value}{a:List Frame}
 (e:tryRecover (gv fn tmps (.inRegion ops (i::rest)::k)) cs=some (v,a)):
 step P (lone (gv fn tmps (.inRegion ops (i::rest)::k)) cs w)= .next (lone (gv fn (mV tmps o.dst v) (.inRegion ops rest::k)) a w'):=
 step_lone_go (by
  rw[Gt c d,<- rq c];have b:tryRecover { fn:=fn.fn,tmps,todo:= .inRegion ops (i::rest)::k,defers:=fn.ds,mode:= .run,kind:=fn.kind } cs=some (v,a):=e;simp[stepG.apply,h,gv,b])
theorem xZ (c:ops[i]? = some o)(d:Region.wanted o (yielded ops tmps)=false):
 step P (lone (gv fn tmps (.inRegion ops (i::rest)::k)) cs w)= .next (lone (gv fn (mV tmps o.dst undef) (.inRegion ops rest::k)) cs w):=by
 have:=step_op_skip (P:=P) (b:=gv fn #[] []) (a:=⟨tmps,fn.ds⟩) (k:=k) (cs:=cs) (w:=w) (ops:=ops) (i:=i) (rest:=rest) (by simp[c,d]);rw[c,show((some o:Option Oper).bind (·.dst))=o.dst from rfl,Nj]at this;exact this
end steps
def Eo (φ:fq)(M:Nat->Prop)(tm:T Value)(tmps:Array Value):Prop:=∀t v,tm.get (bits t)=some v->M t\/∃a,tmps[t]? = some a/\VR φ v a
theorem Eo.mono {ψ:fq}{M:Nat->Prop}(c:φ.le ψ)(h:Eo φ M tm tmps):Eo ψ M tm tmps:=λt v q=>(h t v q).imp id λ⟨d,a,b⟩=>⟨d,a,b.mono c⟩
theorem Bo {M:Nat->Prop}(j:∀g,g<P.globals.size->∃e:lh,φ[g]? = some (some e)/\e.r=g)(h:Eo φ M tm tmps){l:List Operand}(p:∀t,Operand.tmp t∈l->¬M t):tv P φ tm (gP tmps) l:=by
 intro x hx v a;cases x with
 | tmp t=>
   rcases h t v a with q | ⟨n,b,d⟩
   . exact absurd q (p t hx)
   . have:gP tmps (.tmp t)=n:=by
      simp only[gP,Act.eval,iU,b,Option.getD_some]
     rw[this];exact d
 | const c=>
   have a:(bif flat c then some c else none)=some v:=a;obtain⟨b,d⟩:=bE a;cases d;exact .flat _ b
 | global g=>
   obtain⟨b,d⟩:=bE (show(bif bY g P.globals.size then some (Value.pointer (some ⟨g,0,none⟩))else none)=some v from a);cases d;obtain⟨e,s,m⟩:=j g (iZ b);have:gP tmps (.global g)= .pointer (some ⟨e.r,0,none⟩):=by rw[m];rfl
   rw[this];exact .ptr s
 | func f=>cases a;exact .flat _ rfl
theorem tN {M:Nat->Prop}(h:Eo φ M tm tmps){o:Oper}(B:∀p,o.guard=some p->∀d,mP ops p.1=some d->¬M d){b:Bool}
 (s:dX tm ops o=some b):Region.wanted o (yielded ops tmps)=b:=by
 unfold dX at s;unfold Region.wanted;split at s
 . rename_i n;rw[n];cases s;rfl
 . rename_i p n;obtain⟨j,a⟩:=p;rw[n];obtain⟨d,hd,l⟩:=aY s;have z:=B (j,a) n d hd;have m:(ops[j]?).bind (·.dst)=some d:=by
    unfold mP at hd;cases y:ops[j]? with
    | none=>rw[y]at hd;cases hd
    | some q=>rw[y]at hd;exact hd
   show(yielded ops tmps j == some a)=b;unfold oD at l;split at l
   . rename_i x hx;cases l;rcases h d _ hx with q | ⟨A,t,u⟩
     . exact absurd q z
     . have:=u.aR rfl;subst this;have e:yielded ops tmps j=some x:=by
        unfold yielded;rw[m];simp only[ba,t]
       rw[e];cases x<;>cases a<;>rfl
   . rename_i c hx;cases l;rcases h d _ hx with q | ⟨A,t,u⟩
     . exact absurd q z
     . obtain⟨c',rfl,_⟩:=u.Aa;have e:yielded ops tmps j=none:=by
        unfold yielded;rw[m];simp only[ba,t]
       rw[e];rfl
   . cases l
def fc (tm:T Value)(a:Option Tmp)(v:Value):T Value:=match a with
 | some d=>set tm (bits d) (some v)
 | none=>tm
theorem j0 (tm:T Value)(a:Option Tmp)(v:Value)(t:Nat):(fc tm a v).get (bits t)=if a=some t then some v else tm.get (bits t):=by
 cases a with
 | none=>rfl
 | some d=>
   show(set tm (bits d) (some v)).get (bits t)=_;rw[get_at]
   by_cases h:t=d
   . subst h;simp
   . rw[if_neg h,if_neg (by simp;exact λq=>h q.symm)]
theorem tO (tm:T Value)(a:Option Tmp)(v:Value)(x:Operand)(h:∀d,a=some d->x ≠ .tmp d):cZ P (fc tm a v) x=cZ P tm x:=by
 cases x with
 | tmp t=>
   show(fc tm a v).get (bits t)=tm.get (bits t);rw[j0,if_neg (λq=>h t q rfl)]
 | _=>rfl
theorem Ep {tmps:Array Value}{a:Option Tmp}{v:Value}{t:Nat}(h:∀d,a=some d->d<tmps.size):
 (mV tmps a v)[t]? = if a=some t then some v else tmps[t]? := by
 cases a with
 | none=>rfl
 | some d=>
   show(tmps.setIfInBounds d v)[t]? = _
   by_cases b:d=t
   . subst b;rw[fF (h d rfl)];simp
   . rw[fw b,if_neg (by simpa using b)]
theorem Eo.put {M l:Nat->Prop}(h:Eo φ M tm tmps){b:Option Tmp}{v j:Value}(hd:∀d,b=some d->d<tmps.size)(m:VR φ v j)(n:∀t,M t->b≠some t->l t):
 Eo φ l (fc tm b v) (mV tmps b j):=by
 intro t u c;rw[j0]at c;rw[Ep hd]
 by_cases e:b=some t
 . rw[if_pos e]at c ⊢;cases c;exact .inr ⟨j,rfl,m⟩
 . rw[if_neg e]at c ⊢;exact(h t u c).imp (λq=>n t q e) id
def alR (P:Program)(tm:T Value)(o:Op)(e:TypeId)(l:List Value)(mk:Nat->Value):Prop:=
 (o= .alloc e/\dD P e=some l/\mk=nY)\/
 (∃(t:TypeId) (len:Nat) (ps:Array (Nat×Operand)) (vs:List (Nat×Value)) (s:Nat) (z:List Value) (a:Array Value),o= .buildSlice t len ps/\parts P tm ps.toList=some vs/\P.underlying t=some (.slice e)/\bT P e=some s/\dD P e=some z/\
  (bj (len*s) 16777216&&bY 0 (len*s)&&bY 0 z.length)=true/\Instr.fill (λi=>some (i*s,s)) (cI z (len*s)) vs=some a/\l=a.toList/\mk=λnx=> .slice (some ⟨nx,0,none⟩) len len)
theorem aaW {o:Oper}{nx:Nat}{H':T OB}(a:xu o.op=true){v:Value}{nx':Nat}(h:ef P H nx tm o= .val v H' nx'):∃e l mk,alR P tm o.op e l mk/\v=mk nx/\H'=set H (bits nx) (some (fR l e))/\nx'=nx+1:=by
 unfold ef at h;split at h
 . rename_i e b;unfold eN at h;obtain⟨l,d,h⟩:=eI h;rw[iS]at h;cases h;exact⟨e,l,nY,.inl ⟨b,d,rfl⟩,rfl,rfl,rfl⟩
 . rename_i b;rw[b]at a;cases a
 . rename_i b;rw[b]at a;cases a
 . rename_i t len ps b;unfold bC at h;obtain⟨vs,j,h⟩:=eI h;obtain⟨e,s,q,p,h⟩:=ml h;obtain⟨z,d,h⟩:=eI h;obtain⟨n,h⟩:=fX h;obtain⟨c,m,h⟩:=eI h;rw[iS,bW]at h;cases h;exact⟨e,_,_,.inr ⟨t,len,ps,vs,s,z,c,b,j,q,p,d,n,m,rfl,rfl⟩,rfl,rfl,rfl⟩
 all_goals first
  | (rename_i b;rw[b]at a;cases a)
  | cases h
theorem XU {o:Oper}{ρ:Operand->Value}{e:TypeId}{l:List Value}{mk:Nat->Value}(U:tv P φ tm ρ o.op.operands.toList)(h:alR P tm o.op e l mk):
 ∃(l':List Value) (mk':Addr->Value),LR φ l l'/\(execOp ρ o).run P w= .ok (.value (mk' ⟨w.heap.size,0,none⟩)) (w.alloc (.cells l'.toArray e))/\∀(ψ:fq) (k:Nat) (B:lh),ψ[k]? = some (some B)->VR ψ (mk k) (mk' ⟨B.r,0,none⟩):=by
 rcases h with⟨A,I,rfl⟩ | ⟨t,len,ps,vs,s,z,b,A,E,S,V,I,G,R,rfl,rfl⟩
 . obtain⟨i,z,N,d,F,j⟩:=kK I;refine⟨l,λa=> .pointer (some a),LR.of_flat j,?_,fun ψ k B D=> .ptr D⟩;have n:(execOp ρ o).run P w= .ok (.value (.pointer (some ⟨w.heap.size,0,none⟩))) (w.alloc (.cells z.cells e)):=by
    simp[execOp,A,Instr.alloc,zeroValue,typeInfo,N,d,newVar,newRow]
   rw[n,<- F]
 . simp only[ae]at G;have h1:=fI G.1.1;have Q:=iZ G.1.2;obtain⟨i,y,hi,d,F,j⟩:=kK I;have hp:PR φ vs (ps.toList.map λp=>(p.1,ρ p.2)):=r_ ps.toList vs (λp hp=>U p.2 (by
    rw[A];show p.2∈((ps.toList.map (·.2)).toArray).toList;exact bo.2 ⟨p,hp,rfl⟩)) E
   obtain⟨c,L,M⟩:=vy (λi=>some (i*s,s)) hp _ (cI z (len*s)) b (LR.of_flat (sf j _)) R;refine⟨c.toList,λa=> .slice (some a) len len,M,?_,fun ψ k B D=> .slice D (.inl ⟨?_,rfl⟩)⟩
   . have O:z.toArray=y.cells:=by rw[<- F]
     have u:Instr.fill (λi=>some (i*s,s)) (Array.map (λx=>y.cells[x%y.cells.size]!) (Array.range (len*s))) (ps.toList.map λp=>(p.1,ρ p.2))=some c:=by
      rw[<- O];exact L
     have J:(2:Nat)^24=16777216:=by decide
     have C:¬(len*s>2^24):=by rw[J];omega
     have m:¬(len*s=0):=by omega
     simp only[execOp,A,Instr.buildSlice,Sem.run_bind,cJ S,Result.andThen_ok,eG V,if_neg C,if_neg m,Sem.run_pure];have K:(zeroValue e).run P w= .ok y w:=by simp[zeroValue,typeInfo,hi,d]
     simp[K,u,newRow]
   . have:len<=len*s:=j6 len (Nat.pos_of_ne_zero (λq=>by rw[q]at Q;simp at Q));unfold iw;omega
theorem Al {tm tm':T Value}{o:Op}{e:TypeId}{l:List Value}{mk:Nat->Value}(hx:∀x∈o.operands.toList,cZ P tm' x=cZ P tm x)(h:alR P tm o e l mk):alR P tm' o e l mk:=by
 rcases h with h | ⟨t,len,ps,vs,s,z,a,c,b,h⟩
 . exact .inl h
 . refine .inr ⟨t,len,ps,vs,s,z,a,c,?_,h⟩;rw[<- b];refine oL _ λp hp=>hx p.2 ?_;rw[c];show p.2∈((ps.toList.map (·.2)).toArray).toList;exact bo.2 ⟨p,hp,rfl⟩
def Er (P:Program)(φ:fq)(H:T OB)(tm:T Value)(ops:Array Oper)(κ:Nat->Nat)(lo hi:Nat)(p:Nat)(o:Oper):Prop:=
 (dX tm ops o=some false/\∀d,o.dst=some d->tm.get (bits d)=some undef)\/
 (dX tm ops o=some true/\F6 o.op=true/\∃u,(∀d,o.dst=some d->tm.get (bits d)=some u)/\(rW o.op=false->rd P H tm o=some u))\/
 (dX tm ops o=some true/\xu o.op=true/\∃e l mk,alR P tm o.op e l mk/\φ[κ p]? = some none/\hp H (κ p)=some (fR l e)/\lo<=κ p/\κ p<hi/\
  ∀d,o.dst=some d->tm.get (bits d)=some (mk (κ p)))
def Mask (ops:Array Oper)(done π:List Nat)(t:Nat):Prop:=∃p,p∈π/\p∈done/\mP ops p=some t
structure jG (P:Program)(φ:fq)(H:T OB)(tm:T Value)(tmps:Array Value)(ops:Array Oper)(done ng:List Nat)(pl:List (Nat×List Nat))(π:List Nat)(κ:Nat->Nat)(lo hi:Nat):Prop where
 sa:zE ops=true
 ac:acyclic ops=true
 LK:kJ ops (nw ops) done ng pl=true
 RQ:xX ops π
 todo:∀i,i<ops.size->i∉done->i∈π
 closed:∀i,i∉π->∀o,ops[i]? = some o->∀e∈o.after,Region.binds .any e=true->e.on∉π
 ready:∀i,i∈done->∀o,ops[i]? = some o->iP ops done o=true
 tr:Eo φ (Mask ops done π) tm tmps
 Si:∀i o d,ops[i]? = some o->o.dst=some d->i∈done->d<tmps.size
 prom:∀p,p∈π->p∈done->∀o,ops[p]? = some o->Er P φ H tm ops κ lo hi p o
 ng:∀p,p∈π->p∈done->∀o,ops[p]? = some o->rW o.op=true->p∈ng
 inj:∀p q,p∈π->p∈done->q∈π->q∈done->∀o o',ops[p]? = some o->ops[q]? = some o'->xu o.op=true->xu o'.op=true->
  dX tm ops o=some true->dX tm ops o'=some true->κ p=κ q->p=q
 own:∀p,p∈π->p∈done->p∉nZ ops
def oM (P:Program)(H:T OB)(tm:T Value)(ops:Array Oper)(done π:List Nat):Prop:=
 ∀p,p∈π->p∈done->∀o,ops[p]? = some o->rW o.op=true->dX tm ops o=some true->∃u,rd P H tm o=some u/\∀d,o.dst=some d->tm.get (bits d)=some u
theorem lP {o:Oper}{j:Nat}:direct o j=true↔∃e∈o.after,Region.binds .any e=true/\e.on=j:=by
 unfold direct;rw[List.any_eq_true];constructor
 . rintro⟨e,a,h⟩;simp only[ae,beq_iff_eq]at h;exact⟨e,by simpa using a,h.1,h.2⟩
 . rintro⟨e,a,c,b⟩;exact⟨e,by simpa using a,by simp[c,b]⟩
theorem Es (m:zE ops=true){i j:Nat}{o q:Oper}{d:Tmp}(hi:ops[i]? = some o)(b:ops[j]? = some q)(hd:q.dst=some d)(h:d∈o.looksAt ops):direct o j=true\/direct q i=true:=by
 have l:=aM.1 m i (eg.2 (aU.1 hi).1);have c:=aM.1 l j (eg.2 (aU.1 b).1);simp only[hi,b,hd,ae,bl,dY]at c;rcases c.1 with(a | a) | a
 . have e:(o.looksAt ops).contains d=true:=by simpa using h
   rw[a]at e;cases e
 . exact .inl a
 . exact .inr a
theorem Et {i j:Nat}(hn:j∉nZ ops){o q:Oper}{d:Tmp}(hi:ops[i]? = some o)(a:ops[j]? = some q)(hd:q.dst=some d)(b:d∈o.looksAt ops):direct o j=true:=by
 cases h:direct o j with
 | true=>rfl
 | false=>
   refine absurd ?_ hn;unfold nZ;rw[List.mem_filter];refine⟨eg.2 (aU.1 a).1,?_⟩;simp only[a,hd];rw[List.any_eq_true];refine⟨i,eg.2 (aU.1 hi).1,?_⟩;simp only[hi,h];have c:(o.looksAt ops).contains d=true:=by simpa using b
   rw[c];rfl
theorem XV (h:zE ops=true){i j:Nat}{o q:Oper}{d:Tmp}(hi:ops[i]? = some o)(b:ops[j]? = some q)(hd:q.dst=some d)(a:i≠j):o.dst≠some d:=by
 have e:=aM.1 h i (eg.2 (aU.1 hi).1);have c:=aM.1 e j (eg.2 (aU.1 b).1);simp only[hi,b,hd,ae,bl,dY,beq_iff_eq,bne_iff_ne]at c;exact c.2.resolve_left a
theorem oN {o:Oper}{t:Nat}(h:Operand.tmp t∈o.op.operands.toList):t∈o.looksAt ops:=by
 unfold Oper.looksAt;exact List.mem_append_left _ (List.mem_filterMap.2 ⟨.tmp t,h,rfl⟩)
theorem oO {o:Oper}{p:Nat×Bool}{d:Tmp}(e:o.guard=some p)(hd:mP ops p.1=some d):d∈o.looksAt ops:=by
 unfold Oper.looksAt;refine List.mem_append_right _ ?_;obtain⟨j,b⟩:=p;rw[e];have a:(ops[j]?).bind (·.dst)=some d:=by
  unfold mP at hd;cases c:ops[j]? with
  | none=>rw[c]at hd;cases hd
  | some q=>rw[c]at hd;exact hd
 simp only[a,Option.toList_some,aP]
theorem x_ {ops:Array Oper}{p t:Nat}(h:mP ops p=some t):∃q,ops[p]? = some q/\q.dst=some t:=by
 unfold mP at h;cases b:ops[p]? with
 | none=>rw[b]at h;cases h
 | some q=>rw[b]at h;exact⟨q,rfl,h⟩
theorem px {q:Nat}{π:List Nat}(c:xX ops (q::π)){done:List Nat}(b:∀p,p∈q::π->p∈done->p∉nZ ops){o:Oper}(l:ops[q]? = some o){t:Nat}(u:t∈o.looksAt ops):¬Mask ops done (q::π) t:=by
 rintro⟨p,hp,h,hd⟩;obtain⟨oq,m,s⟩:=x_ hd;have x:=lP.1 (Et (b p hp h) l m s u);obtain⟨e,n,y,j⟩:=x;obtain⟨⟨o',d,a⟩,_⟩:=c;rw[l]at d;cases d;exact a e n y (by rw[j];exact hp)
section
variable {done ng:List Nat}{pl:List (Nat×List Nat)}{π:List Nat}{κ:Nat->Nat}{lo hi:Nat}{fn:FB}{k:List Item}{cs:List Frame}
theorem Ii {a:Op}(h:xu a=true):F6 a=false:=by
 cases a<;>first | rfl | cases h
theorem Sj {a:Op}(h:xu a=true):rW a=false:=by
 cases a<;>first | rfl | cases h
theorem Nl {j:Nat}(h:j∉nw ops):j∉nZ ops:=λq=>h (by
 unfold nw;split
 . exact List.mem_append_left _ q
 . exact q)
theorem LL (hH:HR P W φ (hp H) w){q:Nat}(c:jG P φ H tm tmps ops done ng pl (q::π) κ lo hi)(hL:oM P H tm ops done (q::π))(hq:q∈done):
 ∃φ' s w',step P (lone (gv fn tmps (.inRegion ops (q::π)::k)) cs w)= .next (lone (gv fn s (.inRegion ops π::k)) cs w')/\
  φ.le φ'/\HR P W φ' (hp H) w'/\φ'.length=φ.length/\(∀j,j<lo->φ[j]? = some none->φ'[j]? = some none)/\
  jG P φ' H tm s ops done ng pl π κ lo hi/\oM P H tm ops done π/\s.size=tmps.size:=by
 obtain⟨⟨o,A,E⟩,hnq,O⟩:=c.RQ;have hop:tv P φ tm (gP tmps) o.op.operands.toList:=Bo hH.gl c.tr λt K=>px c.RQ c.own A (oN K);have F:∀b,dX tm ops o=some b->Region.wanted o (yielded ops tmps)=b:=λb M=>tN c.tr (λp hp d hd=>px c.RQ c.own A (oO hp hd)) M;have hd:∀d,o.dst=some d->d<tmps.size:=λd h=>c.Si q o d A h hq;have rest:∀(ψ:fq) (u L:Value),φ.le ψ->(∀d,o.dst=some d->tm.get (bits d)=some u)->VR ψ u L->
  (∀p,p∈π->p∈done->∀D,ops[p]? = some D->Er P ψ H tm ops κ lo hi p D)->jG P ψ H tm (mV tmps o.dst L) ops done ng pl π κ lo hi:=by
  intro ψ u L hle B hv hp;refine⟨c.sa,c.ac,c.LK,O,λi hi hn=> ?_,λi hi x hx e he M=> ?_,c.ready,λt v I=> ?_,λi x d hx hxd hi=>by rw[iJ];exact c.Si i x d hx hxd hi,hp,
   λp hp=>c.ng p (aH _ hp),λp p' hp m hp' U=>c.inj p p' (aH _ hp) m (aH _ hp') U,λp hp m=>c.own p (aH _ hp) m⟩
  . rcases aG.1 (c.todo i hi hn)with h | h
    . subst h;exact absurd hq hn
    . exact h
  . by_cases Y:i=q
    . subst Y;rw[A]at hx;cases hx;exact λh=>E e he M (aH _ h)
    . exact λh=>c.closed i (λh=>(aG.1 h).elim Y hi) x hx e he M (aH _ h)
  . rw[Ep hd]
    by_cases K:o.dst=some t
    . rw[if_pos K];rw[B t K]at I;cases I;exact .inr ⟨L,rfl,hv⟩
    . rw[if_neg K];rcases c.tr t v I with⟨p,hp,m,Z⟩ | ⟨v',a,b⟩
      . rcases aG.1 hp with h | h
        . subst h;obtain⟨x,hx,hxt⟩:=x_ Z;rw[A]at hx;cases hx;exact absurd hxt K
        . exact .inl ⟨p,h,m,Z⟩
      . exact .inr ⟨v',a,b.mono hle⟩
 have G:oM P H tm ops done π:=λp hp=>hL p (aH _ hp);have n:∀p,p∈π->p∈done->∀D,ops[p]? = some D->Er P φ H tm ops κ lo hi p D:=λp hp=>c.prom p (aH _ hp);rcases c.prom q (by simp) hq o A with⟨J,B⟩ | ⟨J,hrd,u,B,hnl⟩ | ⟨J,hal,e,l,mk,hz,hk,hkb,oJ,hhi,B⟩
 . exact⟨φ,_,w,xZ A (F _ J),φ.le_refl,hH,rfl,λ_ _ h=>h,rest φ undef undef φ.le_refl B (.flat _ rfl) n,G,iJ _ _ _⟩
 . have hr:∃u,rd P H tm o=some u/\∀d,o.dst=some d->tm.get (bits d)=some u:=by
    cases hl:rW o.op with
    | false=>exact⟨u,hnl hl,B⟩
    | true=>exact hL q (by simp) hq o A hl J
   obtain⟨u,hr,B⟩:=hr;obtain⟨L,hv,z⟩:=xN hH hop hr;exact⟨φ,_,w,ja A (F _ J) z,φ.le_refl,hH,rfl,λ_ _ h=>h,rest φ u L φ.le_refl B hv n,G,iJ _ _ _⟩
 . obtain⟨l',mk',hLR,z,hmk⟩:=XU hop hz;have S:=Bl (P:=P) (W:=W) (w:=w) hLR e e #[] (es:=(bT P e).getD 0) (λy hy=>by rw[hy];rfl) hH.below;rw[Array.append_empty]at S;have M:=hH.bind hk hkb (.cells l'.toArray e) S;refine⟨_,_,_,ja A (F _ J) z,tK hk _,M,by simp,λj hj h=> ?_,rest _ (mk (κ q)) _ (tK hk _) B (hmk _ _ _ (Sf hk _)) ?_,G,iJ _ _ _⟩
   . rw[List.getElem?_set_ne (by omega)];exact h
   . intro p hp m D R;rcases n p hp m D R with h | h | ⟨N,C,e',l',mk2,Q,hk',X,hlo',V,hu'⟩
     . exact .inl h
     . exact .inr (.inl h)
     . refine .inr (.inr ⟨N,C,e',l',mk2,Q,?_,X,hlo',V,hu'⟩);rw[List.getElem?_set_ne]
       . exact hk'
       . intro heq;have:=c.inj q p (by simp) hq (aH _ hp) m o D A R hal C J N heq;subst this;exact hnq hp
theorem yb:∀(π:List Nat) (φ:fq) (tmps:Array Value) (w:World),HR P W φ (hp H) w->jG P φ H tm tmps ops done ng pl π κ lo hi->oM P H tm ops done π->
 ∃φ' a w' π',Steps P (lone (gv fn tmps (.inRegion ops π::k)) cs w) (lone (gv fn a (.inRegion ops π'::k)) cs w')/\
  φ.le φ'/\HR P W φ' (hp H) w'/\φ'.length=φ.length/\(∀j,j<lo->φ[j]? = some none->φ'[j]? = some none)/\
  jG P φ' H tm a ops done ng pl π' κ lo hi/\oM P H tm ops done π'/\a.size=tmps.size/\(∀q l,π'=q::l->q∉done)
 | [],φ,tmps,w,hH,hD,hL=>⟨φ,tmps,w,[],.refl _ _,φ.le_refl,hH,rfl,λ_ _ h=>h,hD,hL,rfl,λq l h=>by cases h⟩
 | q::π,φ,tmps,w,hH,hD,hL=>by
   by_cases G:q∈done
   . obtain⟨φ1,b,w1,I,A,C,y,p,D,m,s⟩:=LL (fn:=fn) (k:=k) (cs:=cs) hH hD hL G;obtain⟨φ2,c,J,π2,t,d,E,z,e,n,u,x,B⟩:=yb π φ1 b w1 C D m;exact⟨φ2,c,J,π2,.head I t,fq.le_trans A d,E,z.trans y,λj F h=>e j F (p j F h),n,u,x.trans s,B⟩
   . exact⟨φ,tmps,w,q::π,.refl _ _,φ.le_refl,hH,rfl,λ_ _ h=>h,hD,hL,rfl,λq' l h=>by cases h;exact G⟩
end
end
section
variable {P:Program}{W w:World}{φ φ':fq}{H H':T OB}{tm:T Value}{tmps:Array Value}{ops:Array Oper}
variable {done ng:List Nat}{pl:List (Nat×List Nat)}{π:List Nat}{κ:Nat->Nat}{lo hi:Nat}
theorem Gu {β:Type}{F:Option OB->Option β}(d:F none=none){b:Nat}{u:β}(a:∀k ob,hp H k=some ob->hp H' k=some ob)(h:F (H.get (bits b))=some u):H'.get (bits b)=H.get (bits b):=by
 cases c:H.get (bits b)with
 | none=>rw[c,d]at h;cases h
 | some ob=>exact a b ob c
theorem Eu {F:Option OB->Bool}(d:F none=false){b:Nat}(a:∀k ob,hp H k=some ob->hp H' k=some ob)(h:F (H.get (bits b))=true):H'.get (bits b)=H.get (bits b):=by
 cases c:H.get (bits b)with
 | none=>rw[c,d]at h;cases h
 | some ob=>exact a b ob c
theorem uO {b:Nat}(a:∀k ob,hp H k=some ob->hp H' k=some ob)(h:nn H b=true):nn H' b=true:=by
 unfold nn at h ⊢;rw[Eu (F:=λx=>gM x (λ_ _ _=>true) false) rfl a h];exact h
theorem XW {o:Oper}{u:Value}(c:∀k ob,hp H k=some ob->hp H' k=some ob)(h:rd P H tm o=some u):rd P H' tm o=some u:=by
 cases C:rW o.op with
 | false=>rw[Ih C];exact h
 | true=>
   unfold rd at h ⊢;cases p:o.op with
   | load t x=>
     simp only[p]at h ⊢;unfold aA at h ⊢;split at h
     . rename_i b off _;unfold nX at h ⊢;rw[Gu (F:=λx=>zB x (λn tr=>oz P n tr t off) none) rfl c h];exact h
     . exact h
     . cases h
   | slice t x lo hi mx=>
     simp only[p]at h ⊢;unfold cw at h ⊢;split at h
     . rename_i b off len J hx;obtain⟨Z,h⟩:=bE h;rw[Z];obtain⟨s,X,e⟩:=aY h;obtain⟨l,C,e⟩:=aY e;obtain⟨G,K,e⟩:=aY e;simp only[cond_true,X,aZ,C,K];cases q:ay J iw with
       | false=>rw[q]at e;exact e
       | true=>
         rw[q]at e;have e:tB P H b off len s l G=some u:=e;show tB P H' b off len s l G=some u;unfold tB at e ⊢;obtain⟨U,E⟩:=bE e;rw[U];cases N:ay l 0 with
         | true=>rw[N]at E;exact E
         | false=>
           rw[N]at E;obtain⟨I,Y⟩:=bE (show(bif bY l len&&xk P H b s then eF (Nat.sub G l) (λn=>eF (iq off (Nat.mul l s)) λo=>some (Value.slice (some ⟨b,o,none⟩) n iw))else none)=some u from E);simp only[ae]at I;have B:xk P H' b s=true:=by
            have B:=I.2;unfold xk at B ⊢;rw[Eu (F:=λx=>gM x (λ_ _ el=>aw (bT P el) (λz=>ay z s) false) false) rfl c B];exact B
           show(bif bY l len&&xk P H' b s then eF (Nat.sub G l) (λn=>eF (iq off (Nat.mul l s)) λo=>some (Value.slice (some ⟨b,o,none⟩) n iw))else none)=some u;rw[I.1,B];exact Y
     . exact h
     . exact h
     . cases h
   | lookup t m k O=>
     simp only[p]at h ⊢;have h:eA P H t (cZ P tm m) (cZ P tm k) O=some u:=h;show eA P H' t (cZ P tm m) (cZ P tm k) O=some u;have V:F5 H' (cZ P tm m)=F5 H (cZ P tm m):=by
      unfold eA at h;obtain⟨kt,et,d,_,_,_,h⟩:=Ae h;obtain⟨es,j,_⟩:=aY h;unfold F5 at j ⊢;split at j
      . rfl
      . rename_i b;rw[Gu (F:=λx=>match x with | some (.map es _)=>some es | _=>none) rfl c j]
      . cases j
     unfold eA at h ⊢;rw[V];exact h
   | convert s d x=>
     simp only[p]at h ⊢;unfold ec at h ⊢;split at h
     . rename_i b off n cp hx;obtain⟨R,M⟩:=bE h;rw[R];show zB (H'.get (bits b)) _ none=some u;rw[Gu (F:=λx=>zB x (λm tr=>bif bj (off+n) m then aw (vd tr n off) (λl=>aw (strOf l) (λr=>some (Value.string ⟨⟨r⟩⟩)) none) none else none) none) rfl c M];exact M
     . exact h
     . cases h
   | binOp A t x y yt=>
     simp only[p]at h ⊢;unfold dx at h ⊢;obtain⟨a,Q,h⟩:=aY h;obtain⟨b,S,h⟩:=aY h;rw[Q,S];simp only[aZ];have D:∀a b,oB P H A t (zC x||zC y) a b=some u->oB P H' A t (zC x||zC y) a b=some u:=λa b h=>by
      unfold oB at h ⊢;cases L:flat a&&flat b with
      | true=>rw[L]at h;exact h
      | false=>
        rw[L]at h;have h:xm P H A t a b=some u:=h;show xm P H' A t a b=some u;unfold xm at h ⊢;split at h
        . split at h
          . obtain⟨q,h⟩:=bE h;simp only[ae]at q;rw[uO c q.1,uO c q.2];exact h
          . cases h
        . exact h
     unfold F4 at h ⊢;split at h
     . unfold MR at h ⊢;split at h
       . exact h
       . exact D _ _ h
     . exact D _ _ h
   | _=>rw[p]at C;cases C
theorem mm {c:List Nat}{i:Nat}{a:List Nat}{rest:List (Nat×List Nat)}(h:kJ ops c done ng ((i,a)::rest)=true):
 ∃o,ops[i]? = some o/\i∉done/\iP ops done o=true/\
  (oE c i o=true->kJ ops c (i::done) (if rW o.op=true then i::ng else ng) rest=true)/\
  (oE c i o=false->(F6 o.op=true->a=[])/\(∀j∈rest,∀q,ops[j.1]? = some q->iP ops done q=false)/\(∀p∈ng,p∈a\/p∈MU ops i)/\kJ ops c (i::done) a rest=true):=by
 unfold kJ at h;cases e:ops[i]? with
 | none=>simp only[e]at h;cases h
 | some o=>
   simp only[e,ae,dY]at h;obtain⟨⟨m,n⟩,b⟩:=h;refine⟨o,rfl,λq=> ?_,n,λd=> ?_,λd=> ?_⟩
   . have:done.contains i=true:=by simpa using q
     rw[m]at this;cases this
   . rw[if_pos d]at b;exact b
   . rw[if_neg (by rw[d];decide)]at b;simp only[ae]at b;refine⟨λt=>by simpa[t]using b.1.1.1,λj l q s=> ?_,λp hp=> ?_,b.2⟩
     . have:=aM.1 b.1.1.2 j l;rw[s]at this;simpa using this
     . have:=aM.1 b.1.2 p hp;simpa using this
theorem rr {d:List Nat}:∀(pl:List (Nat×List Nat)) (done ng:List Nat),kJ ops d done ng pl=true->∀i,i<ops.size->i∈done\/∃c,(i,c)∈pl
 | [],done,ng,h,i,hi=>by
   unfold kJ at h;have:=aM.1 h i (eg.2 hi);exact .inl (by simpa using this)
 | (j,chk)::rest,done,ng,h,i,hi=>by
   obtain⟨o,_,_,_,n,m⟩:=mm h;have b:∀a,kJ ops d (j::done) a rest=true->i∈done\/∃c,(i,c)∈(j,chk)::rest:=λa l=>by
    rcases rr rest (j::done) a l i hi with h | ⟨c,h⟩
    . rcases aG.1 h with h | h
      . subst h;exact .inr ⟨chk,by simp⟩
      . exact .inl h
    . exact .inr ⟨c,aH _ h⟩
   cases e:oE d j o with
   | true=>exact b _ (n e)
   | false=>exact b _ (m e).2.2.2
theorem gE {o:Oper}:iP ops done o=true↔∀e∈o.after,Region.binds .any e=true->e.on∈done:=by
 unfold iP;rw[aM];constructor
 . intro h e a b;have:=h e (by simpa using a);simpa[b]using this
 . intro h e a;cases b:Region.binds .any e with
   | false=>rfl
   | true=>simpa using h e (by simpa using a) b
theorem yc {i p:Nat}(a:i∉nZ ops){o b:Oper}(l:ops[i]? = some o)(hp:ops[p]? = some b)(n:iP ops done b=true)(hi:i∉done){d:Tmp}(hd:o.dst=some d):d∉b.looksAt ops:=λh=>by
 obtain⟨e,j,m,c⟩:=lP.1 (Et a hp l hd h);exact hi (c ▸ gE.1 n e j m)
theorem Ew (m:zE ops=true){i p:Nat}{o j:Oper}(q:ops[i]? = some o)(hp:ops[p]? = some j)(s:iP ops done j=true)(hi:i∉done)(b:∀e∈o.after,Region.binds .any e=true->e.on≠p){d:Tmp}(hd:o.dst=some d):d∉j.looksAt ops:=λn=>by
 rcases Es m hp q hd n with h | h
 . obtain⟨e,c,l,a⟩:=lP.1 h;exact hi (a ▸ gE.1 s e c l)
 . obtain⟨e,c,l,a⟩:=lP.1 h;exact b e c l a
theorem oP {i p:Nat}{o a:Oper}{u:Value}(b:∀d,o.dst=some d->d∉a.looksAt ops):dX (fc tm o.dst u) ops a=dX tm ops a:=
 zJ λg c d hd=>by
  rw[j0,if_neg];exact λq=>b d q (oO c hd)
theorem tP {o a:Oper}{u:Value}(b:∀d,o.dst=some d->d∉a.looksAt ops):rd P H (fc tm o.dst u) a=rd P H tm a:=
 Ni λx hx=>tO tm o.dst u x λd hd q=>by
  subst q;exact b d hd (oN hx)
theorem yd {i p:Nat}{o b:Oper}{u:Value}(c:zE ops=true)(e:ops[i]? = some o)(hp:ops[p]? = some b)(a:i≠p){d:Tmp}(hd:b.dst=some d):
 (fc tm o.dst u).get (bits d)=tm.get (bits d):=by
 rw[j0,if_neg (XV c e hp hd a)]
theorem Er.next {i p:Nat}{o b:Oper}{u:Value}{κ':Nat->Nat}{j:Nat}(G:zE ops=true)(K:ops[i]? = some o)(A:ops[p]? = some b)(s:i≠p)
 (z:∀d,o.dst=some d->d∉b.looksAt ops) (E:∀k,k<hi->φ[k]? = some none->φ'[k]? = some none/\hp H' k=hp H k) (a:κ' p=κ p) (hhi:hi<=j)
 (h:Er P φ H tm ops κ lo hi p b):Er P φ' H' (fc tm o.dst u) ops κ' lo j p b:=by
 have y:dX (fc tm o.dst u) ops b=dX tm ops b:=oP (i:=i) (p:=p) z;have n:∀d,b.dst=some d->(fc tm o.dst u).get (bits d)=tm.get (bits d):=λd hd=>yd G K A s hd
 rcases h with⟨c,B⟩ | ⟨c,B,v,C,m⟩ | ⟨c,t,e,l,mk,C,m,J,F,D,I⟩
 . exact .inl ⟨y.trans c,λd hd=>(n d hd).trans (B d hd)⟩
 . exact .inr (.inl ⟨y.trans c,B,v,λd hd=>(n d hd).trans (C d hd),λq=>by rw[tP z,Ih q];exact m q⟩)
 . refine .inr (.inr ⟨y.trans c,t,e,l,mk,Al (λx hx=>tO tm o.dst u x λd hd q=>by
    subst q;exact z d hd (oN hx)) C,?_,?_,?_,?_,λd hd=> ?_⟩)
   . rw[a];exact(E _ D m).1
   . rw[a];exact(E _ D m).2.trans J
   . rw[a];exact F
   . rw[a];omega
   . rw[a];exact(n d hd).trans (I d hd)
theorem Bp (a:acyclic ops=true){i:Nat}{o:Oper}(d:ops[i]? = some o):direct o i=false:=by
 cases h:direct o i with
 | false=>rfl
 | true=>
   obtain⟨e,j,l,hon⟩:=lP.1 h;have c:=aM.1 a i (eg.2 (aU.1 d).1);rw[d]at c;have b:=aM.1 c e (by simpa using j);simp only[l,cM,bG]at b;have:=iZ b;omega
theorem Nm (e:zE ops=true)(a:acyclic ops=true){i:Nat}{o:Oper}(b:ops[i]? = some o){d:Tmp}(hd:o.dst=some d):d∉o.looksAt ops:=λc=>by
 have:=(Es e b b hd c).elim id id;rw[Bp a b]at this;cases this
theorem jG.take {i:Nat}{o:Oper}{chk:List Nat}{rest:List (Nat×List Nat)}(n:jG P φ H tm tmps ops done ng ((i,chk)::rest) π κ lo hi)(F:ops[i]? = some o)
 (hna:i∉nZ ops) (s:i∉done) (hrdy:iP ops done o=true) {B:List Nat} (M:kJ ops (nw ops) (i::done) B rest=true) (hsub:∀p∈ng,p∈B) (N:rW o.op=true->i∈B)
 {κ':Nat->Nat} {L:Nat} (hle:φ.le φ') (hk:∀k,k<hi->φ[k]? = some none->φ'[k]? = some none/\hp H' k=hp H k) (D:∀p,p≠i->κ' p=κ p) (hhi:hi<=L) {u:Value}
 (V:∀d,o.dst=some d->d<tmps.size) (Q:Er P φ' H' (fc tm o.dst u) ops κ' lo L i o) (A:xu o.op=true->hi<=κ' i):
 jG P φ' H' (fc tm o.dst u) tmps ops (i::done) B rest π κ' lo L:=by
 have Z:i<ops.size:=(aU.1 F).1;have hiπ:i∈π:=n.todo i Z s;have nl:∀p,p∈done->∀C,ops[p]? = some C->∀d,o.dst=some d->d∉C.looksAt ops:=λp c C hp d hd=>yc hna F hp (n.ready p c C hp) s hd;have hlt:∀q,q∈π->q∈done->∀o',ops[q]? = some o'->xu o'.op=true->dX tm ops o'=some true->κ q<hi:=λq hq O o' ho' hal hw=>by
  rcases n.prom q hq O o' ho' with⟨h1,_⟩ | ⟨_,h2,_⟩ | ⟨_,_,_,_,_,_,_,_,_,h7,_⟩
  . rw[hw]at h1;cases h1
  . rw[Ii hal]at h2;cases h2
  . exact h7
 refine⟨n.sa,n.ac,M,n.RQ,λj S hn=>n.todo j S (λq=>hn (aH _ q)),n.closed,λj S x hx=> ?_,λt v hv=> ?_,λj x d hx Y S=> ?_,λp hp c C l=> ?_,λp hp c C l hl=> ?_,λp q hp c hq O x y hx K R J X U I=> ?_,λp hp c=>(aG.1 c).elim (λh=>h ▸ hna) (n.own p hp)⟩
 . rw[gE];intro e he hb;rcases aG.1 S with h | h
   . subst h;rw[F]at hx;cases hx;exact aH _ (gE.1 hrdy e he hb)
   . exact aH _ (gE.1 (n.ready j h x hx) e he hb)
 . rw[j0]at hv
   by_cases ht:o.dst=some t
   . refine .inl ⟨i,hiπ,by simp,?_⟩;unfold mP;rw[F];exact ht
   . rw[if_neg ht]at hv;rcases n.tr t v hv with⟨p,h1,h2,h3⟩ | ⟨v',a,b⟩
     . exact .inl ⟨p,h1,aH _ h2,h3⟩
     . exact .inr ⟨v',a,b.mono hle⟩
 . rcases aG.1 S with h | h
   . subst h;rw[F]at hx;cases hx;exact V d Y
   . exact n.Si j x d hx Y h
 . rcases aG.1 c with h | h
   . subst h;rw[F]at l;cases l;exact Q
   . have m:i≠p:=λq=>s (q ▸ h);exact(n.prom p hp h C l).next n.sa F l m (nl p h C l) hk (D p (Ne.symm m)) hhi
 . rcases aG.1 c with h | h
   . subst h;rw[F]at l;cases l;exact N hl
   . exact hsub p (n.ng p hp h C l hl)
 . have G:∀p,p∈done->∀x,ops[p]? = some x->dX (fc tm o.dst u) ops x=some true->dX tm ops x=some true:=λp c x hx h=>by
    rw[oP (i:=i) (p:=p) (nl p c x hx)]at h;exact h
   rcases aG.1 c with h | h<;>rcases aG.1 O with E | E
   . rw[h,E]
   . have m:q≠i:=λz=>s (z ▸ E);rw[D q m,h]at I;rw[h]at hx;rw[F]at hx;cases hx;have:=A R;have:=hlt q hq E y K J (G q E y K U);omega
   . have m:p≠i:=λz=>s (z ▸ h);rw[D p m,E]at I;rw[E]at K;rw[F]at K;cases K;have:=A J;have:=hlt p hp h x hx R (G p h x hx X);omega
   . have m:p≠i:=λz=>s (z ▸ h);have hne':q≠i:=λz=>s (z ▸ E);rw[D p m,D q hne']at I;exact n.inj p q hp h hq E x y hx K R J (G p h x hx X) (G q E y K U) I
theorem oM.take {i:Nat}{o:Oper}(C:zE ops=true)(b:∀i,i∈done->∀o,ops[i]? = some o->iP ops done o=true)(x:ops[i]? = some o)(n:i∉nZ ops)(e:i∉done)(A:oM P H tm ops done π)
 (j:∀k ob,hp H k=some ob->hp H' k=some ob) {u:Value} (c:rW o.op=true->dX (fc tm o.dst u) ops o=some true->rd P H' (fc tm o.dst u) o=some u):
 oM P H' (fc tm o.dst u) ops (i::done) π:=by
 intro p hp m l a z s;rcases aG.1 m with h | h
 . subst h;rw[x]at a;cases a;refine⟨u,c z s,λd hd=> ?_⟩;rw[j0,if_pos hd]
 . have y:∀d,o.dst=some d->d∉l.looksAt ops:=λd hd=>yc n x a (b p h l a) e hd;have t:i≠p:=λq=>e (q ▸ h);rw[oP (i:=i) (p:=p) y]at s;obtain⟨v,B,D⟩:=A p hp h l a z s;refine⟨v,?_,λd hd=> ?_⟩
   . rw[tP y];exact XW j B
   . rw[yd C x a t hd];exact D d hd
theorem vz {L:List Nat}(b:∀i,i∉L->∀o,ops[i]? = some o->∀e∈o.after,Region.binds .any e=true->e.on∉L):∀(q:Nat) (a:List Nat),(∀x∈a,x∉L)->∀x∈zY ops q a,x∉L
 | 0,a,h,x,hx=>h x hx
 | q+1,a,h,x,hx=>by
   unfold zY at hx;split at hx
   . rename_i j;split at hx
     . rename_i o t;refine vz b q _ ?_ x hx;have s:q∉L:=h q (by simpa using j);have:∀(es:List Edge) (a:List Nat),(∀e∈es,e∈o.after)->(∀x∈a,x∉L)->∀x∈es.foldl (λl e=>if Region.binds .any e=true then e.on::l else l) a,x∉L:=by
        intro es
        induction es with
        | nil=>exact λa _ h=>h
        | cons e es p=>
          intro a c h;refine p _ (λn d=>c n (aH _ d)) ?_
          dsimp only
          split
          . rename_i u;intro x hx;rcases aG.1 hx with hx | hx
            . subst hx;exact b q s o t e (c e (by simp)) u
            . exact h x hx
          . exact h
       exact this _ _ (λe m=>by simpa using m) h
     . exact vz b q _ h x hx
   . exact vz b q _ h x hx
theorem Nn {i:Nat}{π:List Nat}(c:xX ops (i::π))(m:∀j,j∉i::π->∀o,ops[j]? = some o->∀e∈o.after,Region.binds .any e=true->e.on∉i::π):
 ∀x∈MU ops i,x∉i::π:=by
 obtain⟨⟨o,t,b⟩,_⟩:=c;unfold MU;rw[t];refine vz m i _ ?_;have:∀(es:List Edge) (a:List Nat),(∀e∈es,e∈o.after)->(∀x∈a,x∉i::π)->∀x∈es.foldl (λl e=>if Region.binds .any e=true then e.on::l else l) a,x∉i::π:=by
  intro es
  induction es with
  | nil=>exact λa _ h=>h
  | cons e es s=>
    intro a d h;refine s _ (λq n=>d q (aH _ n)) ?_
    dsimp only
    split
    . rename_i u;intro x hx;rcases aG.1 hx with hx | hx
      . subst hx;exact b e (d e (by simp)) u
      . exact h x hx
    . exact h
 exact this _ _ (λe p=>by simpa using p) (λx hx=>by cases hx)
theorem jG.finish {i:Nat}{o:Oper}{C:List Nat}{rest:List (Nat×List Nat)}(m:jG P φ H tm tmps ops done ng ((i,C)::rest) (i::π) κ lo hi)(G:ops[i]? = some o)
 (hE:oE (nw ops) i o=false) {Y:Nat} (hle:φ.le φ') (hk:∀k,k<hi->φ[k]? = some none->φ'[k]? = some none/\hp H' k=hp H k) (hhi:hi<=Y) {u u':Value} (hu:VR φ' u u')
 (D:∀d,o.dst=some d->d<tmps.size) (O:C.all (held P H' (fc tm o.dst u) ops)=true):
 jG P φ' H' (fc tm o.dst u) (mV tmps o.dst u') ops (i::done) C rest π κ lo Y/\oM P H' (fc tm o.dst u) ops (i::done) π:=by
 obtain⟨o',A,K,V,_,hpl⟩:=mm m.LK;rw[G]at A;cases A;obtain⟨_,_,M,F⟩:=hpl hE;obtain⟨⟨o',A,z⟩,S,X⟩:=m.RQ;rw[G]at A;cases A;have R:=Nn m.RQ m.closed;have nl:∀p,p∈π->p∈done->∀b,ops[p]? = some b->∀d,o.dst=some d->d∉b.looksAt ops:=λp n a b hp d hd=>Ew m.sa G hp (m.ready p a b hp) K (λe J I q=>z e J I (by rw[q];exact aH _ n)) hd;have L:∀p,p∈π->p∈i::done->p∈done:=λp hp a=>(aG.1 a).resolve_left (λq=>S (q ▸ hp));have s:∀p,p∈π->p∈done->∀b,ops[p]? = some b->rW b.op=true->p∈C:=λp hp a b c Q=>
  (M p (m.ng p (aH _ hp) a b c Q)).resolve_right (λq=>R p q (aH _ hp))
 refine⟨⟨m.sa,m.ac,F,X,λj E hn=> ?_,λj E x hx e J I=> ?_,λj E x hx=> ?_,?_,λj x d hx Z E=> ?_,λp hp a b c=> ?_,λp hp a b c Q=>s p hp (L p hp a) b c Q,λp q hp a hq B x y hx hy hxa hya hxw hyw heq=> ?_,λp hp a=>m.own p (aH _ hp) (L p hp a)⟩,?_⟩
 . rcases aG.1 (m.todo j E (λq=>hn (aH _ q)))with h | h
   . subst h;exact absurd (fC ..) hn
   . exact h
 . by_cases hji:j=i
   . subst hji;rw[G]at hx;cases hx;exact λh=>z e J I (aH _ h)
   . exact λh=>m.closed j (λh=>(aG.1 h).elim hji E) x hx e J I (aH _ h)
 . rw[gE];intro e J I;rcases aG.1 E with h | h
   . subst h;rw[G]at hx;cases hx;exact aH _ (gE.1 V e J I)
   . exact aH _ (gE.1 (m.ready j h x hx) e J I)
 . refine(m.tr.mono hle).put D hu λt ht N=> ?_;obtain⟨p,l,h2,h3⟩:=ht;rcases aG.1 l with h | h
   . subst h;exact absurd h2 K
   . exact⟨p,h,aH _ h2,h3⟩
 . rw[iJ];rcases aG.1 E with h | h
   . subst h;rw[G]at hx;cases hx;exact D d Z
   . exact m.Si j x d hx Z h
 . have a:=L p hp a;have N:i≠p:=λq=>K (q ▸ a);exact(m.prom p (aH _ hp) a b c).next m.sa G c N (nl p hp a b c) hk rfl hhi
 . have a:=L p hp a;have B:=L q hq B;have U:∀p,p∈π->p∈done->∀x,ops[p]? = some x->dX (fc tm o.dst u) ops x=some true->dX tm ops x=some true:=λp n a x hx h=>by
    rw[oP (i:=i) (p:=p) (nl p n a x hx)]at h;exact h
   exact m.inj p q (aH _ hp) a (aH _ hq) B x y hx hy hxa hya (U p hp a x hx hxw) (U q hq B y hy hyw) heq
 . intro p hp a b c Q hw;have a:=L p hp a;have l:=aM.1 O p (s p hp a b c Q);unfold held at l;rw[c]at l;have l:VJ P H' (fc tm o.dst u) b (dX (fc tm o.dst u) ops b)=true:=l;rw[hw]at l;have l:aw (rd P H' (fc tm o.dst u) b) (HU (fc tm o.dst u) b.dst) false=true:=l;cases hr:rd P H' (fc tm o.dst u) b with
   | none=>rw[hr]at l;cases l
   | some v=>
     rw[hr]at l;have l:HU (fc tm o.dst u) b.dst v=true:=l;refine⟨v,rfl,λd hd=> ?_⟩;unfold HU at l;rw[hd]at l;cases hg:(fc tm o.dst u).get (bits d)with
     | none=>simp only[hg]at l;cases l
     | some v2=>
       simp only[hg]at l;rw[LI l]
theorem jG.head {i:Nat}{o:Oper}{t:List Nat}{rest:List (Nat×List Nat)}(m:jG P φ H tm tmps ops done ng ((i,t)::rest) π κ lo hi)(C:ops[i]? = some o)
 (E:oE (nw ops) i o=false) (hn:∀q l,π=q::l->q∉done):∃l,π=i::l:=by
 obtain⟨o',n,u,hrdy,_,p⟩:=mm m.LK;rw[C]at n;cases n;obtain⟨_,j,_,_⟩:=p E;have hi:=m.todo i (aU.1 C).1 u;cases π with
 | nil=>cases hi
 | cons q l=>
   refine⟨l,?_⟩;have I:=hn q l rfl;obtain⟨⟨B,d,b⟩,_,_⟩:=m.RQ;have a:=(aU.1 d).1;have s:iP ops done B=true:=gE.2 λe z A=>by
    have F:=b e z A;have G:e.on<ops.size:=by
     have D:=aM.1 m.ac q (eg.2 a);rw[d]at D;have y:=aM.1 D e (by simpa using z);simp only[A,cM,bG]at y;have:=iZ y;omega
    by_cases x:e.on∈done
    . exact x
    . exact absurd (m.todo e.on G x) F
   rcases rr _ _ _ m.LK q a with h | ⟨c,h⟩
   . exact absurd h I
   . rcases aG.1 h with h | h
     . cases h;rfl
     . have:=j _ h B d;rw[s]at this;cases this
theorem jG.last (b:jG P φ H tm tmps ops done ng [] π κ lo hi)(hn:∀q l,π=q::l->q∉done):π=[]:=by
 cases π with
 | nil=>rfl
 | cons q l=>
   obtain⟨⟨oq,a,_⟩,_,_⟩:=b.RQ;rcases rr _ _ _ b.LK q (aU.1 a).1 with h | ⟨c,h⟩
   . exact absurd h (hn q l rfl)
   . cases h
theorem Gv {pl:List (Nat×List Nat)}(h:Bb ops=some pl):zE ops=true/\acyclic ops=true/\kJ ops (nw ops) [] [] pl=true:=by
 unfold Bb at h;split at h
 . cases h
 . split at h
   . rename_i a;cases h;simp only[ae]at a;exact⟨a.1.1.1,a.1.1.2,a.2⟩
   . cases h
theorem jG.start {pl:List (Nat×List Nat)}(h:Bb ops=some pl)(t:Nat)(a:Eo φ (λ_=>False) tm tmps)(lo hi:Nat):
 jG P φ H tm tmps ops [] [] pl (Region.schedule true ops t) id lo hi/\oM P H tm ops [] (Region.schedule true ops t):=by
 obtain⟨e,c,n⟩:=Gv h;obtain⟨j,b⟩:=LJ ops c t;refine⟨⟨e,c,n,j,λi hi _=>b i hi,λi hi o m=>absurd (b i (aU.1 m).1) hi,λi hi=>absurd hi cO,λt v l=>(a t v l).imp False.elim id,
  λi o d _ _ hi=>absurd hi cO,λp _ hp=>absurd hp cO,λp _ hp=>absurd hp cO,λp q _ hp=>absurd hp cO,λp _ hp=>absurd hp cO⟩,λp _ hp=>absurd hp cO⟩
end
section
variable {P:Program}
def kindOf (kd:Bool):CallKind:=match kd with
 | true=> .deferred
 | false=> .normal
inductive VP (P:Program)(φ:fq):List (FuncId×List Value)->List Deferred->Prop
 | nil:VP P φ [] []
 | cons {d:FuncId×List Value} {d':Deferred} {l:List (FuncId×List Value)} {l':List Deferred} (h:DfR P φ d d') (hl:VP P φ l l'):VP P φ (d::l) (d'::l')
theorem VP.mono {φ φ':fq}(a:φ.le φ'){l:List (FuncId×List Value)}{l':List Deferred}(h:VP P φ l l'):VP P φ' l l':=by
 induction h with
 | nil=>exact .nil
 | cons h _ b=>exact .cons (h.mono a) b
def eV (c:Cg)(ds:List Deferred):FB:=⟨c.fn,kindOf c.kd,ds⟩
def ke (m:Option Value):FrameMode:=match m with
 | none=> .returning
 | some v=> .panicking [{ v,recovered:=false }]
def Ex:List Frame->List Frame
 | C::r=>(match C.mode with
   | .panicking ({ v,recovered:=false,goexit:=false }::older)=>{ C with mode:= .panicking ({ v,recovered:=true }::older) }::r
   | _=>C::r)
 | []=>[]
def iz (b:Bool)(cs:List Frame):List Frame:=match b with
 | true=>Ex cs
 | false=>cs
def Gx (φ:fq)(kd:Bool)(rp:Option Value)(b:Bool)(cs0:List Frame):Prop:=kd=true->match rp with
 | some v=>b=false/\∃C r c a,cs0=C::r/\C.mode= .panicking ({ v:=c,recovered:=false,goexit:=false }::a)/\VR φ v c
 | none=>∀F:Frame,F.kind= .deferred->tryRecover F (iz b cs0)=none
theorem Gx.mono {φ φ':fq}(j:φ.le φ'){kd:Bool}{rp:Option Value}{l:Bool}{cs0:List Frame}(h:Gx φ kd rp l cs0):Gx φ' kd rp l cs0:=λq=>by
 have:=h q;cases rp with
 | none=>exact this
 | some v=>
   obtain⟨a,C,r,m,e,b,c,d⟩:=this;exact⟨a,C,r,m,e,b,c,d.mono j⟩
theorem Gy {F:Frame}{cs:List Frame}(h:F.kind= .normal):tryRecover F cs=none:=by
 unfold tryRecover;rw[h]
theorem lA {F C:Frame}{cs:List Frame}(h:F.kind= .deferred):tryRecover F (C::cs)=(match C.mode with
 | .panicking ({ v,recovered:=false,goexit:=false }::older)=>some (v,{ C with mode:= .panicking ({ v,recovered:=true }::older) }::cs)
 | _=>none):=by
 conv=>lhs;unfold tryRecover
 rw[h];rfl
theorem No {F:Frame}{cs:List Frame}(h:F.kind= .deferred):tryRecover F (Ex cs)=none:=by
 cases cs with
 | nil=>unfold tryRecover;rw[h];rfl
 | cons C r=>
   show tryRecover F (match C.mode with
   | .panicking ({ v,recovered:=false,goexit:=false }::a)=>{ C with mode:= .panicking ({ v,recovered:=true }::a) }::r
   | _=>C::r)=none
   split
   . rw[lA h]
   . rename_i hn;rw[lA h];split
     . rename_i v a q;exact absurd q (hn v a)
     . rfl
theorem LM {C:Frame}{r:List Frame}(h:∀l,C.mode ≠ .panicking l):Ex (C::r)=C::r:=by
 show(match C.mode with
  | .panicking ({ v,recovered:=false,goexit:=false }::older)=>{ C with mode:= .panicking ({ v,recovered:=true }::older) }::r
  | _=>C::r)=C::r
 split
 . rename_i q;exact absurd q (h _)
 . rfl
theorem Ey {C:Frame}{r:List Frame}(b:Bool)(h:∀l,C.mode ≠ .panicking l):iz b (C::r)=C::r:=by
 cases b
 . rfl
 . exact LM h
def aaX (P:Program)(φ:fq)(o:Out)(fr:Frame)(w:World):Prop:=match o with
 | .ret v=>∃a,VR φ v a/\fr.going P w (.returned a)
 | .j_ v=>∃a,VR φ v a/\fr.going P w (.panicked [{ v:=a,recovered:=false }])
variable {W w w' w1:World}{f fn:FuncId}{cs cs0:List Frame}{r:Rt}{fr fr' fr1:Frame}{φ φ' φ1:fq}{H H' H1:T OB}{nx nx' aI nt lo hi:Nat}{tm:T Value}{tmps:Array Value}{ops:Array Oper}
 {todo k:List Item} {c:Cg} {ds:List Deferred} {kd:Bool} {O:bV->Option Rt}
def gb (P:Program)(W:World)(kd:Bool)(fn:FuncId)(lo:Nat)(cs0:List Frame)(b:Bool)(φ:fq)(H:T OB)(r:Rt)(fr:Frame)(w:World):Prop:=
 ∃φ' w' a,Steps P (lone fr (iz b cs0) w) (lone a (iz r.rc cs0) w')/\φ.le φ'/\HR P W φ' (hp r.H) w'/\φ'.length=r.nx/\(∀k,k<lo->φ[k]? = some none->φ'[k]? = some none/\hp r.H k=hp H k)/\
  a.kind=kindOf kd/\a.fn=fn/\aaX P φ' r.o a w'
theorem gb.steps {e rc1:Bool}(s:Steps P (lone fr (iz e cs0) w) (lone fr1 (iz rc1 cs0) w1))(b:φ.le φ1)(c:∀k,k<lo->φ[k]? = some none->φ1[k]? = some none/\hp H1 k=hp H k)
 (h:gb P W kd fn lo cs0 rc1 φ1 H1 r fr1 w1):gb P W kd fn lo cs0 e φ H r fr w:=by
 obtain⟨φ',w',d,n,u,x,p,j,l,m,t⟩:=h;exact⟨φ',w',d,s.trans n,fq.le_trans b u,x,p,λk a q=>⟨(j k a (c k a q).1).1,(j k a (c k a q).1).2.trans (c k a q).2⟩,l,m,t⟩
theorem gb.step1 {b:Bool}(c:Steps P (lone fr (iz b cs0) w) (lone fr1 (iz b cs0) w))(h:gb P W kd fn lo cs0 b φ H r fr1 w):gb P W kd fn lo cs0 b φ H r fr w:=
 h.steps c φ.le_refl λ_ _ q=>⟨q,rfl⟩
theorem vA {a:Rt}(h:(Q.ret a).run O=some r):a=r:=by cases h;rfl
theorem kV (h:Q.bad.run O=some r):False:=by cases h
theorem sq {q:bV}{g:Rt->Q}(h:(Q.ask q g).run O=some r):∃a,O q=some a/\(g a).run O=some r:=by
 have h:aw (O q) (λa=>(g a).run O) none=some r:=h;exact aY h
theorem Np {q:bV}(h:(Q.jump q).run O=some r):O q=some r:=h
theorem dn {α:Type}{x:Option α}{g:α->Q}(h:(aw x g .bad).run O=some r):∃a,x=some a/\(g a).run O=some r:=by
 cases x with
 | none=>cases h
 | some a=>exact⟨a,rfl,h⟩
theorem py {b:Bool}{x:Q}(h:(bif b then x else Q.bad).run O=some r):b=true/\x.run O=some r:=by
 cases b
 . cases h
 . exact⟨rfl,h⟩
theorem iM {b:Bool}{x y:Q}(h:(bK b x y).run O=some r):(b=true/\x.run O=some r)\/(b=false/\y.run O=some r):=by
 cases b
 . exact .inr ⟨rfl,h⟩
 . exact .inl ⟨rfl,h⟩
theorem fS {a:Option Tmp}{v:Value}{g:T Value->Q}(h:(nv nt tm a v g .bad).run O=some r):(∀d,a=some d->d<nt)/\(g (fc tm a v)).run O=some r:=by
 cases a with
 | none=>exact⟨λd hd=>(by cases hd),h⟩
 | some d=>
   obtain⟨c,b⟩:=py (show(bif bY d nt then fQ (bits d) tm (some v) g else Q.bad).run O=some r from h);rw[bQ]at b;exact⟨λd' hd=>by cases hd;exact iZ c,b⟩
theorem sr {t:Bool}{a:Option Tmp}{v:Value}{g:T Value->Q}(h:(D1 P t nt tm a v g).run O=some r):(∀d,a=some d->d<nt)/\(g (fc tm a v)).run O=some r:=by
 unfold D1 at h;rcases iM h with⟨_,b⟩ | ⟨_,b⟩
 . unfold RO at b;split at b
   . exact fS b
   . cases b
 . exact fS b
theorem vB {e:iV}{g:Value->T OB->Nat->Q}(h:(bU e g).run O=some r):∃v H nx,e= .val v H nx/\(g v H nx).run O=some r:=by
 cases e with
 | val v H nx=>exact⟨v,H,nx,rfl,h⟩
 | _=>cases h
theorem Nq {x:Option Value}{g:Nat->Nat->Q}(h:(R4 x g).run O=some r):∃b off,x=some (.pointer (some ⟨b,off,none⟩))/\(g b off).run O=some r:=by
 unfold R4 at h;split at h
 . exact⟨_,_,rfl,h⟩
 . cases h
theorem Gz {x:Option OB}{g:Nat->T Value->TypeId->Q}(h:(rf x g).run O=some r):∃n t e,x=some (.cells n t e)/\(g n t e).run O=some r:=by
 unfold rf at h;split at h
 . exact⟨_,_,_,rfl,h⟩
 . cases h
theorem mW {α:Type}(v:α):∀(a:List Bool) (t:T α),t.get a=some v->set t a (some v)=t
 | [],.leaf,h=>by cases h
 | [],.node x l r,h=>by have h:x=some v:=h;subst h;rfl
 | b::a,.leaf,h=>by rw[mQ]at h;cases h
 | false::a,.node x l r,h=>by rw[lL,mW v a l h]
 | true::a,.node x l r,h=>by rw[mF,mW v a r h]
theorem Am {o:Oper}{c l:T Value->Q}(h:(Bc tm ops o.guard c l).run O=some r):∃b,dX tm ops o=some b/\(b=true->(c tm).run O=some r)/\(b=false->(l tm).run O=some r):=by
 unfold dX;unfold Bc at h;split at h
 . rename_i m;exact⟨true,(by first | rfl | rw[m]),λ_=>h,λq=>(by cases q)⟩
 . rename_i p m;obtain⟨d,hd,e⟩:=dn h;show ∃b,aw (mP ops p.1) (λd=>oD tm d p.2) none=some b/\_;rw[hd];show ∃b,oD tm d p.2=some b/\_;unfold oD;split at e
   . rename_i x hx;rw[bQ,bQ,bQ,bQ]at e;refine⟨_,rfl,λq=> ?_,λq=> ?_⟩
     . have q:x=p.2:=by simpa using q
       subst q;rcases iM e with⟨j,a⟩ | ⟨j,a⟩
       . rw[j]at a hx;have a:(c (set tm (bits d) (some (.bool true)))).run O=some r:=a;rwa[mW _ _ _ hx]at a
       . rw[j]at a hx;have a:(c (set tm (bits d) (some (.bool false)))).run O=some r:=a;rwa[mW _ _ _ hx]at a
     . have q:x≠p.2:=by simpa using q
       rcases iM e with⟨j,a⟩ | ⟨j,a⟩
       . have:x=false:=by cases x<;>simp_all
         subst this;have a:(l (set tm (bits d) (some (.bool false)))).run O=some r:=a;rwa[mW _ _ _ hx]at a
       . have:x=true:=by cases x<;>simp_all
         subst this;have a:(l (set tm (bits d) (some (.bool true)))).run O=some r:=a;rwa[mW _ _ _ hx]at a
   . rename_i x hx;exact⟨false,rfl,λq=>(by cases q),λ_=>e⟩
   . cases e
theorem ye (b:φ.le φ')(d:jz φ φ' (hp H) (hp H')):φ.length<=φ'.length:=by
 rcases Nat.eq_zero_or_pos φ.length with h | h
 . omega
 . have c:φ.length-1<φ.length:=by omega
   have a:=au c;cases hx:φ[φ.length-1]with
   | none=>rw[hx]at a;have:=(ar.1 (d _ a).1).1;omega
   | some e=>rw[hx]at a;have:=(ar.1 (b _ _ a)).1;omega
theorem HR.adA {g:Nat->Option OB}(hH:HR P W φ g w){b n:Nat}{t:T Value}{e:lh}(F:g b=some .dead)(G:φ[b]? = some (some e))(z:Ea P W φ (.ro n t) e w):HR P W φ (rS g b (some (.ro n t))) w where
 below:=hH.below
 gl:=hH.gl
 uJ:=λk o h=>by
  by_cases p:k=b
  . subst p;exact hH.uJ k _ F
  . rw[bP g p]at h;exact hH.uJ k o h
 tu:=hH.tu
 inj:=λk u D oa' x A h B p d s q I=>by
  have hx:∀j y,rS g b (some (.ro n t)) j=some y->live y=true->g j=some y:=by
   intro j y h m
   by_cases C:j=b
   . subst C;rw[fH]at h;cases h;cases m
   . rwa[bP g C]at h
  exact hH.inj k u _ _ x A h B (hx k _ p s) (hx u _ d q) s q I
 obj:=λk D x p h=>by
  by_cases l:k=b
  . subst l;rw[fH]at p;cases p;rw[G]at h;cases h;exact z
  . rw[bP g l]at p;exact hH.obj k D x p h
 qH:=hH.qH
 xJ:=λk u x A c o h E B d m=>by
  by_cases l:u=b
  . subst l;rw[fH]at d;cases d;cases m
  . rw[bP g l]at d;exact hH.xJ k u x A c o h E B d m
theorem HR.ghost {g:Nat->Option OB}(hH:HR P W φ g w){e:lh}{c:Array Value}{el:TypeId}{fz:Nat×Nat}(B:e.fz=some c)(A:w.heap[e.r]? = some (.cells c el fz))
 (p:∀(k:Nat) (x:lh) (ob:OB),φ[k]? = some (some x)->g k=some ob->live ob=true->x.r≠e.r):HR P W (φ++[some e]) g w where
 below:=hH.below
 gl:=hH.Se (fG φ _)
 uJ:=λk o h=>by have:=hH.uJ k o h;simp;omega
 tu:=λk x h=>by
  rcases dz h with h | ⟨_,h⟩
  . exact hH.tu k x h
  . cases h;exact(aU.1 A).1
 inj:=λk d C I x m h s b l n q y=>by
  have E:=hH.uJ k _ b;have G:=hH.uJ d _ l;rcases dz h with t | ⟨D,_⟩
  . rcases dz s with j | ⟨u,_⟩
    . exact hH.inj k d C I x m t j b l n q y
    . omega
  . omega
 obj:=λk F x b h=>by
  have E:=hH.uJ k _ b;rcases dz h with t | ⟨D,_⟩
  . exact(hH.obj k F x b t).mono (fG φ _)
  . omega
 qH:=λk x c' h a=>by
  rcases dz h with j | ⟨_,hx⟩
  . exact hH.qH k x c' j a
  . cases hx;rw[B]at a;cases a;exact⟨el,fz,A⟩
 xJ:=λk d x m c' o h a s b n=>by
  have G:=hH.uJ d _ b;rcases dz s with z | ⟨u,_⟩
  . rcases dz h with j | ⟨_,hx⟩
    . exact hH.xJ k d x m c' o j a z b n
    . cases hx;exact p d m o z b n
  . omega
theorem HR.grown {g:Nat->Option OB}(hH:HR P W φ g w)(a:Below w.heap.size w w'):HR P W φ g w':=by
 have b:∀(k:Nat) (e:lh),φ[k]? = some (some e)->w'.heap[e.r]? = w.heap[e.r]? := λk e h=>a.block e.r (hH.tu k e h);exact {
  below:=hH.below.trans (a.mono hH.below.size)
  gl:=hH.gl
  uJ:=hH.uJ
  tu:=λk e h=>eh (hH.tu k e h) a.size
  inj:=hH.inj
  obj:=λk ob e j h=>(hH.obj k ob e j h).heap λ_=>b k e h
  qH:=λk e c h d=>by obtain⟨el,fz,q⟩:=hH.qH k e c h d;exact⟨el,fz,by rw[b k e h];exact q⟩
  xJ:=hH.xJ }
theorem uP {a:Bool}{s:Nat}:∀(n:Nat) (l es:List Value),chunk a s n l=some es->(a=false->s=1)->(es.all λx=>bK a true (aC x))=true->
 es.length=n/\l.length=n*s/\(∀x∈es,x.cells.toList.length=s)/\∀(i j:Nat) (x v:Value),es[i]? = some x->x.cells.toList[j]? = some v->l[i*s+j]? = some v
 | 0,l,es,h,_,_=>by
   obtain⟨m,u⟩:=bE (show(bif l.isEmpty then some []else none)=some es from h);cases u;exact⟨rfl,by rw[List.isEmpty_iff.1 m];simp,λx hx=>by simp at hx,λi j x v hi=>by simp at hi⟩
 | n+1,l,es,h,p,hone=>by
   obtain⟨m,u⟩:=bE (show(bif bj s l.length then aw (chunk a s n (l.drop s)) (λr=>bK a (some (.agg ⟨l.take s⟩::r)) (aw l.head? (λv=>some (v::r)) none)) none else none)=some es from h);have m:=fI m;obtain⟨b,E,c⟩:=aY u;have t:∃x,es=x::b/\x.cells.toList=l.take s:=by
    cases a with
    | true=>have c:some (Value.agg ⟨l.take s⟩::b)=some es:=c;cases c;exact⟨_,rfl,rfl⟩
    | false=>
      have p:=p rfl;subst p;have c:aw l.head? (λv=>some (v::b)) none=some es:=c;cases l with
      | nil=>simp at m
      | cons v l=>
        have c:some (v::b)=some es:=c;cases c;refine⟨v,rfl,?_⟩;have B:aC v=true:=by
         have:=aM.1 hone v (by simp);exact this
        cases v<;>first | rfl | cases B
   obtain⟨x,rfl,hx⟩:=t;have d:(b.all λx=>bK a true (aC x))=true:=by simp only[cW,ae]at hone;exact hone.2
   obtain⟨D,z,A,C⟩:=uP n _ _ E p d;refine⟨by simp[D],?_,λy q=> ?_,λi j y v hi e=> ?_⟩
   . rw[aD]at z;rw[ir];omega
   . rcases aG.1 q with rfl | q
     . rw[hx];simp;omega
     . exact A y q
   . cases i with
     | zero=>
       simp at hi;subst hi;rw[hx,bR]at e;split at e
       . simpa using e
       . cases e
     | succ i=>
       have hi:b[i]? = some y:=by simpa using hi
       have:=C i j y v hi e;rw[bL]at this;rw[ir,<- this];congr 1;omega
def kf (P:Program)(W:World)(φ:fq)(H:T OB)(nx:Nat)(w:World)(φ':fq)(H':T OB)(nx':Nat):Prop:=
 φ.le φ'/\HR P W φ' (hp H') w/\φ'.length=nx'/\jz φ φ' (hp H) (hp H')/\nx<=nx'
theorem kf.refl (hH:HR P W φ (hp H) w)(ej:φ.length=nx):kf P W φ H nx w φ H nx:=⟨φ.le_refl,hH,ej,jz.refl _ _,ax _⟩
theorem kf.trans {φ'':fq}{b:T OB}{a:Nat}(h:kf P W φ H nx w φ' H' nx')(c:kf P W φ' H' nx' w φ'' b a):kf P W φ H nx w φ'' b a:=
 ⟨fq.le_trans h.1 c.1,c.2.1,c.2.2.1,h.2.2.2.1.trans c.2.2.2.1,ga h.2.2.2.2 c.2.2.2.2⟩
theorem nG (hH:HR P W φ (hp H) w)(ej:φ.length=nx){t:TypeId}{v v':Value}(N:VR φ v v'){g:Value->T OB->Nat->Q}(h:(jw P t v H nx g).run O=some r):
 ∃φ' u H' nx',(g u H' nx').run O=some r/\VR φ' u v'/\kf P W φ H nx w φ' H' nx':=by
 unfold jw at h;split at h
 case h_3=>exact⟨φ,v,H,nx,h,N,.refl hH ej⟩
 case h_2=>
  rename_i e hu;split at h
  . rename_i b;obtain⟨x,hx,G⟩:=dn h;rw[bQ,bW]at G;obtain⟨p,F,_,rfl⟩:=N.iR;unfold aaK at hx;obtain⟨m,tr,el,hg,S⟩:=xE hx;obtain⟨s,hs,h3⟩:=aY S;obtain⟨a,ha,h4⟩:=aY h3;obtain⟨h5,h6⟩:=bE h4;obtain⟨l,hl,M⟩:=aY h6;have hms:=beq_eq h5;have key:∃u,x=ah u/\u.cells.toList=l:=by
     cases a with
     | true=>
       have M:some (ah (.agg ⟨l⟩))=some x:=M;cases M;exact⟨_,rfl,rfl⟩
     | false=>
       obtain⟨u,hu',h8⟩:=aY (show aw l.head? (λv=>bif ay l.length 1&&aC v then some (ah v)else none) none=some x from M);obtain⟨Z,I⟩:=bE h8;cases I;simp only[ae]at Z;have hl1:=beq_eq Z.1;refine⟨u,rfl,?_⟩;have J:u.cells.toList=[u]:=by cases u<;>first | rfl | cases Z.2
       rw[J];cases l with
       | nil=>cases hu'
       | cons y l=>
         cases hu';cases l with
         | nil=>rfl
         | cons _ _=>simp at hl1
    obtain⟨u,rfl,hul⟩:=key;have B:hp H b=some (.cells m tr el):=hg;obtain⟨c,el',E,X,hrn,si⟩:=hH.cells B F;obtain⟨q1,q2⟩:=rh si hl (by omega) (by omega);have A:HR P W φ (hp (set H (bits b) (some .dead))) w:=by rw[dc];exact hH.kill B F
    have L:=A.ghost (e:=⟨p.r,p.sz,p.es,some c⟩) rfl E (λk x ob C d D hr=>by
     rw[dc]at d
     by_cases z:k=b
     . subst z;rw[fH]at d;cases d;cases D
     . rw[bP _ z]at d;exact z (hH.inj k b _ _ x p C F d B D rfl hr))
    refine⟨_,_,_,_,G,?_,fG φ _,L,by simp[ej],?_,by omega⟩
    . refine VR.ep (e:=⟨p.r,p.sz,p.es,some c⟩) (c:=c) (i_ φ _) rfl (by rw[hul,q2];omega) (λj a b' K V=> ?_);rw[hul]at K;have hjl:=(ar.1 K).1;refine VR.mono (fG φ _) (q1.at_ j a b' K ?_);rw[dq,bR,if_pos (by omega),dT];rw[bN]at V;exact V
    . intro k C;refine⟨?_,?_⟩
      . rw[bc (ar.1 C).1];exact C
      . rw[dc,bP];intro q;subst q;rw[F]at C;cases C
  . exact⟨φ,v,H,nx,h,N,.refl hH ej⟩
 rename_i e hu;split at h
 . rename_i b off n cp;obtain⟨hcp,h⟩:=py h;simp only[bl]at hcp;obtain⟨x,hx,G⟩:=dn h;rw[bQ,bW]at G;obtain⟨p,c',F,_,rfl,U⟩:=N.jn;unfold R0 at hx;obtain⟨m,tr,el,hg,S⟩:=xE hx;obtain⟨s,hs,h3⟩:=aY S;obtain⟨a,ha,h4⟩:=aY h3;obtain⟨h5,h6⟩:=bE h4;obtain⟨l,hl,M⟩:=aY h6;obtain⟨es,hes,h8⟩:=aY M;obtain⟨Z,I⟩:=bE h8;cases I;simp only[ae,bl]at h5;have hle:=fI h5.1.1;have hs1:a=false->s=1:=λq=>by
    rcases h5.2 with q' | q'
    . rw[q]at q';cases q'
    . exact beq_eq q'
   obtain⟨g1,g2,g3,g4⟩:=uP n l es hes hs1 Z;have B:hp H b=some (.cells m tr el):=hg;obtain⟨c,el',E,X,hrn,si⟩:=hH.cells B F;obtain⟨q1,q2⟩:=rh si hl hle (by omega);have hcl:n<=c':=by
    rcases U with⟨q,rfl⟩ | ⟨_,q,_⟩
    . rcases hcp with h' | h'
      . exact absurd (beq_eq h') q
      . exact fI h'
    . exact q
   have A:HR P W φ (hp (set H (bits b) (some .dead))) w:=by rw[dc];exact hH.kill B F
   have L:=A.ghost (e:=⟨p.r,p.sz,p.es,some c⟩) rfl E (λk x ob C d D hr=>by
    rw[dc]at d
    by_cases z:k=b
    . subst z;rw[fH]at d;cases d;cases D
    . rw[bP _ z]at d;exact z (hH.inj k b _ _ x p C F d B D rfl hr))
   have Y:=L.adA (b:=b) (n:=m) (t:=tr) (e:=p) (by rw[dc,fH]) (by rw[bc (ar.1 F).1];exact F) (.inr ⟨_,_,c,i_ φ _,rfl,rfl,by omega,si.mono (fG φ _)⟩);rw[dc,se,<- dc]at Y;rw[show roB (H.get (bits b))= .ro m tr by rw[hg];rfl]at G;refine⟨_,_,_,_,G,?_,fG φ _,Y,by simp[ej],?_,by omega⟩
   . rw[<- g1];have hlen:es.length*s=n*s:=by rw[g1]
     refine VR.row (e:=⟨p.r,p.sz,p.es,some c⟩) (c:=c) (i_ φ _) rfl g3 (λ_=> ?_) (by omega) (λi j x u u' hi hj hc=> ?_)
     . rw[hlen];omega
     . have R:=g4 i j x u hi hj;have hlt:=(ar.1 R).1;refine VR.mono (fG φ _) (q1.at_ (i*s+j) u u' R ?_);rw[bR,if_pos (by omega),bL,dT,<- iK];exact hc
   . intro k C;refine⟨?_,?_⟩
     . rw[bc (ar.1 C).1];exact C
     . rw[dc,bP];intro q;subst q;rw[F]at C;cases C
 . rename_i n c;obtain⟨G,S⟩:=py h;simp only[ae]at G;obtain⟨s,hs,h3⟩:=dn S;have e1:=beq_eq G.1;have e2:=beq_eq G.2;subst e1 e2;have:=N.aR rfl;subst this;exact⟨φ,_,H,nx,h3,.xG s,.refl hH ej⟩
 . exact⟨φ,v,H,nx,h,N,.refl hH ej⟩
theorem yf:∀(c:List Field) (cs a:List Value) (φ:fq) (H:T OB) (nx:Nat),HR P W φ (hp H) w->φ.length=nx->LR φ cs a->∀{g:List Value->T OB->Nat->Q},(R2 P c cs H nx g).run O=some r->
 ∃φ' j H' nx',(g j H' nx').run O=some r/\LR φ' j a/\kf P W φ H nx w φ' H' nx'
 | [],cs,a,φ,H,nx,hH,ej,hl,g,h=>⟨φ,cs,H,nx,h,hl,.refl hH ej⟩
 | f::c,cs,a,φ,H,nx,hH,ej,hl,g,h=>by
   obtain⟨v,x,t⟩:=dn (show(aw cs[f.offset]? (λv=>jw P f.type v H nx λv H nx=>R2 P c (cs.set f.offset v) H nx g) .bad).run O=some r from h);obtain⟨y,b,l⟩:=hl.get x;obtain⟨φ1,u,H1,aI,A,B,d⟩:=nG hH ej l t;have m:LR φ1 (cs.set f.offset u) a:=by
    have:=(hl.mono d.1).set f.offset B
    have e:a.set f.offset y=a:=by
     refine eE λi=> ?_;rw[gJ]
     by_cases hi:f.offset=i
     . subst hi;rw[if_pos rfl,b,if_pos (ar.1 b).1]
     . rw[if_neg hi]
    rw[e]at this;exact this
   obtain⟨φ2,j,q,n,z,p,s⟩:=yf c _ a φ1 H1 aI d.2.1 d.2.2.1 m A;exact⟨φ2,j,q,n,z,p,d.trans s⟩
theorem GA (hH:HR P W φ (hp H) w)(ej:φ.length=nx){t:TypeId}{v b:Value}(a:VR φ v b){g:Value->T OB->Nat->Q}(h:(gD P t v H nx g).run O=some r):
 ∃φ' u H' nx',(g u H' nx').run O=some r/\VR φ' u b/\kf P W φ H nx w φ' H' nx':=by
 unfold gD at h;split at h
 . split at h
   . obtain⟨c',rfl,c⟩:=a.pw;obtain⟨φ',us,H',nx',e,j,d⟩:=yf _ _ _ _ _ _ hH ej c h;exact⟨φ',_,H',nx',e,j.agg,d⟩
   . cases h
 . exact nG hH ej a h
def Nr (P:Program)(W:World)(O:bV->Option Rt)(w:World)(a:Value->T OB->Nat->(Value->T OB->Nat->Q)->Q):Prop:=
 ∀(v b:Value) (φ:fq) (H:T OB) (nx:Nat) (r:Rt),HR P W φ (hp H) w->φ.length=nx->VR φ v b->∀{g:Value->T OB->Nat->Q},(a v H nx g).run O=some r->
  ∃φ' u H' nx',(g u H' nx').run O=some r/\VR φ' u b/\kf P W φ H nx w φ' H' nx'
theorem ru {c:TypeId->Value->T OB->Nat->(Value->T OB->Nat->Q)->Q}(y:∀t,Nr P W O w (c t)):∀(l:List (Nat×TypeId)) (cs b:List Value) (φ:fq) (H:T OB) (nx:Nat),HR P W φ (hp H) w->φ.length=nx->LR φ cs b->∀{g:List Value->T OB->Nat->Q},(Ls c l cs H nx g).run O=some r->
 ∃φ' j H' nx',(g j H' nx').run O=some r/\LR φ' j b/\j.length=cs.length/\kf P W φ H nx w φ' H' nx'
 | [],cs,b,φ,H,nx,hH,ej,hl,g,h=>⟨φ,cs,H,nx,h,hl,rfl,.refl hH ej⟩
 | p::l,cs,b,φ,H,nx,hH,ej,hl,g,h=>by
   obtain⟨v,D,C⟩:=dn (show(aw cs[p.1]? (λv=>c p.2 v H nx λv H nx=>Ls c l (cs.set p.1 v) H nx g) .bad).run O=some r from h);obtain⟨x,d,n⟩:=hl.get D;obtain⟨φ1,u,H1,aI,G,I,m⟩:=y p.2 v x φ H nx r hH ej n C;have q:LR φ1 (cs.set p.1 u) b:=by
    have:=(hl.mono m.1).set p.1 I
    have e:b.set p.1 x=b:=by
     refine eE λi=> ?_;rw[gJ]
     by_cases hi:p.1=i
     . subst hi;rw[if_pos rfl,d,if_pos (ar.1 d).1]
     . rw[if_neg hi]
    rw[e]at this;exact this
   obtain⟨φ2,j,A,s,F,z,E,B⟩:=ru y l _ b φ1 H1 aI m.2.1 m.2.2.1 q G;exact⟨φ2,j,A,s,F,z,by rw[E,List.length_set],m.trans B⟩
def ElR (φ:fq)(s:Nat)(c:Array Value)(o:Nat)(es:List Value):Prop:=
 (∀x∈es,x.cells.toList.length=s)/\∀(i j:Nat) (x v a:Value),es[i]? = some x->x.cells.toList[j]? = some v->c[o+i*s+j]? = some a->VR φ v a
theorem yg {a:TypeId->Value->T OB->Nat->(Value->T OB->Nat->Q)->Q}(N:∀t,Nr P W O w (a t))(offs:List (Nat×TypeId)){s:Nat}{c:Array Value}:∀(es:List Value) (o:Nat) (φ:fq) (H:T OB) (nx:Nat),HR P W φ (hp H) w->φ.length=nx->ElR φ s c o es->o+es.length*s<=c.size->
 ∀{g:List Value->T OB->Nat->Q},(oG (oF a offs) es H nx g).run O=some r->
 ∃φ' p H' nx',(g p H' nx').run O=some r/\ElR φ' s c o p/\p.length=es.length/\kf P W φ H nx w φ' H' nx'
 | [],o,φ,H,nx,hH,ej,hl,hn,g,h=>⟨φ,[],H,nx,h,⟨λx hx=>by simp at hx,λi j x v b hi=>by simp at hi⟩,rfl,.refl hH ej⟩
 | x::es,o,φ,H,nx,hH,ej,hl,hn,g,h=>by
   have h:(oF a offs x H nx λv H nx=>oG (oF a offs) es H nx λl H nx=>g (v::l) H nx).run O=some r:=h;have n:=hl.1 x (by simp);rw[ao,ic,Nat.one_mul]at hn;have A:∃φ1 u H1 aI,(oG (oF a offs) es H1 aI λl H nx=>g (u::l) H nx).run O=some r/\kf P W φ H nx w φ1 H1 aI/\u.cells.toList.length=s/\∀(j:Nat) (v b:Value),u.cells.toList[j]? = some v->c[o+j]? = some b->VR φ1 v b:=by
    have D:∀(j:Nat) (v b:Value),x.cells.toList[j]? = some v->c[o+j]? = some b->VR φ v b:=λj v b d m=>hl.2 0 j x v b rfl d (by rw[Nat.zero_mul,Nat.add_zero];exact m)
    by_cases E:∃cs,x= .agg ⟨cs⟩
    . obtain⟨cs,rfl⟩:=E;have B:((c.toList.drop o).take s).length=s:=by simp;omega
      have J:LR φ cs ((c.toList.drop o).take s):=⟨by rw[B];exact n,λj v b d q=>D j v b d (by
       have K:=(ar.1 q).1;rw[bR,if_pos (by omega),bL,dT]at q;exact q)⟩
      obtain⟨φ1,p,H1,aI,G,V,L,z⟩:=ru N offs cs _ φ H nx hH ej J h;refine⟨φ1,.agg ⟨p⟩,H1,aI,G,z,by rw[<- n];exact L,λj v b d m=>V.at_ j v b d ?_⟩;have K:j<p.length:=(ar.1 d).1;have hxs':cs.length=s:=n;rw[bR,if_pos (by omega),bL,dT];exact m
    . have e:oF a offs x H nx (λv H nx=>oG (oF a offs) es H nx λl H nx=>g (v::l) H nx)=oG (oF a offs) es H nx λl H nx=>g (x::l) H nx:=by
       cases x<;>first | rfl | exact absurd ⟨_,rfl⟩ E
      rw[e]at h;exact⟨φ,x,H,nx,h,.refl hH ej,n,D⟩
   obtain⟨φ1,u,H1,aI,G,z,U,I⟩:=A;obtain⟨φ2,p,S,F,X,R,L,M⟩:=yg N offs es (o+s) φ1 H1 aI z.2.1 z.2.2.1 ⟨λy C=>hl.1 y (by simp[C]),λi j y v b hi d m=>(hl.2 (i+1) j y v b hi d (by rw[ic,Nat.one_mul];rw[<- m];congr 1;omega)).mono z.1⟩ (by omega) G;refine⟨φ2,u::p,S,F,X,⟨λy C=> ?_,λi j y v b hi d m=> ?_⟩,by rw[ao,L,ao],z.trans M⟩
   . rcases aG.1 C with rfl | C
     . exact U
     . exact R.1 y C
   . cases i with
     | zero=>
       cases hi;rw[Nat.zero_mul,Nat.add_zero]at m;exact(I j v b d m).mono M.1
     | succ i=>
       refine R.2 i j y v b hi d ?_;rw[ic,Nat.one_mul]at m;rw[<- m];congr 1;omega
theorem rz:∀(d:Nat) (t:TypeId),Nr P W O w (nA P d t)
 | 0,t=>λv J φ H nx r hH ej l g h=>nG hH ej l h
 | d+1,t=>λv J φ H nx r hH ej l g h=>by
   obtain⟨φ1,u,H1,aI,a,j,b⟩:=nG hH ej l (show(jw P t v H nx λu H nx=>bif DZ v then(match P.underlying t with | some (.slice e)=>kZ u (λs es=>oG (oF (nA P d) (gY P 4 e)) es H nx λes H nx=>bif es.all λx=>ay x.cells.toList.length s then g (bM s es) H nx else .bad) .bad | _=>g u H nx)else g u H nx).run O=some r from h);cases y:DZ v with
   | false=>
     rw[y]at a;exact⟨φ1,u,H1,aI,a,j,b⟩
   | true=>
     rw[y,cond_true]at a;split at a
     . rename_i e _;obtain⟨s,es,rfl,n⟩:∃s es,u=bM s es/\(oG (oF (nA P d) (gY P 4 e)) es H1 aI λes H nx=>bif es.all λx=>ay x.cells.toList.length s then g (bM s es) H nx else .bad).run O=some r:=by
        unfold kZ at a;split at a
        . exact⟨_,_,rfl,a⟩
        . cases a
       rcases j.mj with⟨rfl,_⟩ | ⟨k,o,c',en,c,F,C,K,A,I,E,rfl⟩
       . exact⟨φ1,_,H1,aI,n,j,b⟩
       . cases es with
         | nil=>exact⟨φ1,_,H1,aI,n,j,b⟩
         | cons x es=>
           obtain⟨φ2,us,B,m,D,q,p,z⟩:=yg (λt=>rz d t) _ (x::es) o φ1 H1 aI b.2.1 b.2.2.1 ⟨K,E⟩ (A (by simp)) n;obtain⟨k5,G⟩:=py D;refine⟨φ2,_,B,m,G,?_,b.trans z⟩;rw[<- p];exact VR.row (z.1 _ _ F) C q.1 (λ_=>by rw[p];exact A (by simp)) (by rw[p];exact I) q.2
     . exact⟨φ1,u,H1,aI,a,j,b⟩
theorem GB (hH:HR P W φ (hp H) w)(ej:φ.length=nx){t:TypeId}{v a:Value}(c:VR φ v a){g:Value->T OB->Nat->Q}(h:(dM P t v H nx g).run O=some r):
 ∃φ' u H' nx',(g u H' nx').run O=some r/\VR φ' u a/\kf P W φ H nx w φ' H' nx':=by
 unfold dM at h;cases b:q_ v with
 | false=>
   rw[b]at h;exact rz 100000 t v a φ H nx r hH ej c h
 | true=>
   rw[b,cond_true]at h;cases v<;>first | cases b | skip
   rename_i cs;obtain⟨cs⟩:=cs;obtain⟨c',rfl,d⟩:=c.pw;obtain⟨φ',us,H',nx',j,l,_,e⟩:=ru (λt=>rz 100000 t) _ _ _ _ _ _ hH ej d h;exact⟨φ',_,H',nx',j,l.agg,e⟩
theorem rA (ts:Array TypeId):∀(l:List Nat) (vs q:List Value) (φ:fq) (H:T OB) (nx:Nat),HR P W φ (hp H) w->φ.length=nx->LR φ vs q->∀{g:List Value->T OB->Nat->Q},(D0 P ts l vs H nx g).run O=some r->
 ∃φ' n H' nx',(g n H' nx').run O=some r/\LR φ' n q/\kf P W φ H nx w φ' H' nx'
 | [],cs,cs',φ,H,nx,hH,ej,hl,g,h=>⟨φ,cs,H,nx,h,hl,.refl hH ej⟩
 | i::l,cs,cs',φ,H,nx,hH,ej,hl,g,h=>by
   have B:∀(m:Nat) (t:TypeId) (v c:Value),cs[m]? = some v->cs'[m]? = some c->(∃φ1 u H1 aI,(D0 P ts l (cs.set m u) H1 aI g).run O=some r/\VR φ1 u c/\kf P W φ H nx w φ1 H1 aI)->
    ∃φ' n H' nx',(g n H' nx').run O=some r/\LR φ' n cs'/\kf P W φ H nx w φ' H' nx':=by
    intro m t v c p b ⟨φ1,u,H1,aI,h2,h3,h4⟩;have z:LR φ1 (cs.set m u) cs':=by
     have:=(hl.mono h4.1).set m h3
     have e:cs'.set m c=cs':=by
      refine eE λj=> ?_;rw[gJ]
      by_cases hi:m=j
      . subst hi;rw[if_pos rfl,b,if_pos (ar.1 b).1]
      . rw[if_neg hi]
     rw[e]at this;exact this
    obtain⟨φ2,n,C,x,F,E,D⟩:=rA ts l _ cs' φ1 H1 aI h4.2.1 h4.2.2.1 z h2;exact⟨φ2,n,C,x,F,E,h4.trans D⟩
   have h:(bif bj 1000 i then aw ts[i-1000]? (λt=>aw cs[i-1000]? (λv=>dM P t v H nx λv H nx=>D0 P ts l (cs.set (i-1000) v) H nx g) .bad) .bad else
    aw ts[i]? (λt=>aw cs[i]? (λv=>gD P t v H nx λv H nx=>D0 P ts l (cs.set i v) H nx g) .bad) .bad:Q).run O=some r:=h
   cases A:bj 1000 i with
   | true=>
     rw[A,cond_true]at h;obtain⟨t,_,y⟩:=dn h;obtain⟨v,p,s⟩:=dn y;obtain⟨c,b,d⟩:=hl.get p;exact B _ t v c p b (GB hH ej d s)
   | false=>
     rw[A,cond_false]at h;obtain⟨t,_,y⟩:=dn h;obtain⟨v,p,s⟩:=dn y;obtain⟨c,b,d⟩:=hl.get p;exact B _ t v c p b (GA hH ej d s)
def rvF (tmps:Array Value):ResultVar->Sem Value
 | .tmp t=>pure (tmps.getD t undef)
 | .cell a t=>do loadVar t (<- asAddr (tmps.getD a undef))
theorem rB (hH:HR P W φ (hp H) w)(b:Eo φ (λ_=>False) tm tmps):∀(l:List ResultVar) {g:List Value->Q},(Lu P H tm l g).run O=some r->
 ∃vs j,(g vs).run O=some r/\LR φ vs j/\(l.mapM (rvF tmps)).run P w= .ok j w
 | [],g,h=>⟨[],[],h,.nil,rfl⟩
 | .tmp t::l,g,h=>by
   obtain⟨v,d,s⟩:=dn (show(aw (tm.get (bits t)) (λv=>Lu P H tm l λvs=>g (v::vs)) .bad).run O=some r from h);obtain⟨B,c,A,C,x⟩:=rB hH b l s;obtain⟨m,z,n⟩:=(b t v d).resolve_left id;refine⟨v::B,m::c,A,.cons n C,?_⟩;have e:tmps.getD t undef=m:=by simp[iU,z]
   simp only[List.mapM_cons,rvF,Sem.run_bind,Sem.run_pure,Result.andThen_ok,e,x]
 | .cell a t::l,g,h=>by
   obtain⟨v,d,s⟩:=dn (show(aw (aA P H t (tm.get (bits a))) (λv=>Lu P H tm l λvs=>g (v::vs)) .bad).run O=some r from h);obtain⟨B,c,A,C,x⟩:=rB hH b l s;cases p:tm.get (bits a)with
   | none=>rw[p]at d;cases d
   | some J=>
     rw[p]at d;obtain⟨q,z,n⟩:=(b a J p).resolve_left id;obtain⟨m,F,E,I,D⟩:=rZ hH (y:=q) (λu K=>by cases K;exact n) d;subst E;refine⟨v::B,m::c,A,.cons I C,?_⟩;have G:tmps.getD a undef= .pointer (some F):=by simp[iU,z]
     simp only[List.mapM_cons,rvF,Sem.run_bind,G,asAddr,Sem.run_pure,Result.andThen_ok,D,x]
theorem Sk {vs c:List Value}(h:LR φ vs c):VR φ (aaM vs) (if h:c.toArray.size=1 then c.toArray[0]else .tuple c.toArray):=by
 cases vs with
 | nil=>cases h.pq;exact .flat _ rfl
 | cons a l=>
   obtain⟨a',l',rfl,e,d⟩:=h.inv;cases l with
   | nil=>cases d.pq;exact e
   | cons b m=>
     obtain⟨b',m',rfl,_,_⟩:=d.inv;rw[dif_neg (by simp)];exact h.tuple
theorem kf.fin (h:kf P W φ H nx w φ' H' nx'){a:Bool}(b:gb P W kd fn lo cs0 a φ' H' r fr w):gb P W kd fn lo cs0 a φ H r fr w:=
 b.steps (.refl _ _) h.1 λk _ q=>h.2.2.2.1 k q
theorem Sl {pl:ny}(hH:HR P W φ (hp H) w)(ej:φ.length=nx)(p:c.kd=kd)(n:c.fn=fn)(j:Eo φ (λ_=>False) tm tmps)(h:(XD P pl c tm H nx).run O=some r):
 gb P W kd fn lo cs0 c.rc φ H r { gv (eV c []) tmps todo with mode:= .returning } w:=by
 unfold XD at h;obtain⟨b,m,t⟩:=dn h;obtain⟨vs,a,y,z,u⟩:=rB hH j _ t;obtain⟨φ',us,H',nx',l,s,d⟩:=rA b.resultTypes _ _ _ φ H nx hH ej z y;have l:=vA l;subst l;have x:(results b tmps).run P w= .ok (if h:a.toArray.size=1 then a.toArray[0]else .tuple a.toArray) w:=by
  have e:results b tmps=(do let vs <- b.results.mapM (rvF tmps);pure (if h:vs.size=1 then vs[0]else .tuple vs)):=rfl;rw[e,Sem.run_bind,Array.mapM_eq_mapM_toList,Sem.run_map,u];rfl
 refine d.fin ⟨φ',w,_,.refl _ _,φ'.le_refl,d.2.1,d.2.2.1,λk _ q=>⟨q,rfl⟩,?_,?_,_,Sk s,rfl,rfl,b,?_,x⟩
 . show kindOf c.kd=kindOf kd;rw[p]
 . exact n
 . exact m
end
section
variable {P:Program}{W w w' w1:World}{f fn:FuncId}{cs cs0:List Frame}{r r1:Rt}{fr fr' fr1:Frame}{φ φ' φ1:fq}{H H' H1:T OB}{nx nx' aI nt lo hi:Nat}{tm:T Value}{tmps:Array Value}{ops:Array Oper}
 {todo k:List Item} {c:Cg} {ds:List Deferred} {kd:Bool} {O:bV->Option Rt} {pl:ny}
structure Fx (P:Program)(W:World)(lo:Nat)(cs0:List Frame)(c:Cg)(φ:fq)(H:T OB)(nx:Nat)(tmps:Array Value)(ds:List Deferred)(w:World):Prop where
 hH:HR P W φ (hp H) w
 ej:φ.length=nx
 oJ:lo<=nx
 oI:tmps.size=c.nt
 Bq:VP P φ c.df ds
 si:Gx φ c.kd c.rp c.rc cs0
def ss (P:Program)(W:World)(c:Cg)(tm:T Value)(a:List Item)(H:T OB)(nx:Nat)(r:Rt):Prop:=
 ∀φ w lo tmps ds cs0,Fx P W lo cs0 c φ H nx tmps ds w->Eo φ (λ_=>False) tm tmps->gb P W c.kd c.fn lo cs0 c.rc φ H r (gv (eV c ds) tmps a) w
def XX (P:Program)(W:World)(f:FuncId)(b:List Value)(kd:Bool)(rp:Option Value)(H:T OB)(nx:Nat)(r:Rt):Prop:=
 ∀φ w a cs0,HR P W φ (hp H) w->φ.length=nx->LR φ b a->Gx φ kd rp false cs0->gb P W kd f nx cs0 false φ H r (Frame.enter P f a.toArray (kindOf kd)) w
def Ns (P:Program)(W:World)(q:bV)(r:Rt):Prop:=match q with
 | .call f b kd rp H nx=>XX P W f b kd rp H nx r
 | .at c tm a H nx=>ss P W c tm a H nx r
def oe (P:Program)(W:World)(O:bV->Option Rt):Prop:=∀q r,O q=some r->Ns P W q r
def Ij (P:Program)(W:World)(O:bV->Option Rt)(K:Kt)(a:List Item):Prop:=∀c tm H nx r,(K c tm H nx).run O=some r->ss P W c tm a H nx r
theorem ss.step1 {a:List Item}(d:∀(ds:List Deferred) (tmps:Array Value) (cs:List Frame) (w:World),Steps P (lone (gv (eV c ds) tmps todo) cs w) (lone (gv (eV c ds) tmps a) cs w))(h:ss P W c tm a H nx r):
 ss P W c tm todo H nx r:=λφ w lo tmps ds cs0 x b=>(h φ w lo tmps ds cs0 x b).step1 (d _ _ _ _)
theorem Ez (a:∀k,k<φ.length->φ[k]? = some none->φ'[k]? = some none/\hp H' k=hp H k):jz φ φ' (hp H) (hp H'):=λk q=>a k (ar.1 q).1 q
inductive MdR (φ:fq):Mq->Option Value->Prop
 | ret:MdR φ .ret none
 | j_ {v v':Value} (h:VR φ v v'):MdR φ (.j_ v) (some v')
theorem LN (m:Option Value):ke m ≠ .run:=by cases m<;>simp[ke]
theorem vC (V:oe P W O):∀(l:List (FuncId×List Value)) (m:Mq) (mv:Option Value) (φ:fq) (H:T OB) (nx:Nat) (ds:List Deferred) (w:World),HR P W φ (hp H) w->φ.length=nx->lo<=nx->VP P φ l ds->MdR φ m mv->
 Eo φ (λ_=>False) tm tmps->(rX P pl c tm l m H nx).run O=some r->gb P W c.kd c.fn lo cs0 c.rc φ H r { gv (eV c ds) tmps todo with mode:=ke mv } w
 | [],m,mv,φ,H,nx,ds,w,hH,ej,oJ,Bq,hm,htr,h=>by
   cases Bq;have h:(F_ P pl c tm m H nx).run O=some r:=h;unfold F_ at h;cases hm with
   | ret=>exact Sl hH ej rfl rfl htr h
   | @j_ v X t=>
     obtain⟨fd,N,h⟩:=dn h;have h:=vA h;subst h;exact⟨φ,w,_,.refl _ _,φ.le_refl,hH,ej,λk _ q=>⟨q,rfl⟩,rfl,rfl,X,t,rfl,rfl,fd,N⟩
 | (g,args)::l,m,mv,φ,H,nx,ds,w,hH,ej,oJ,Bq,hm,htr,h=>by
   cases Bq with
   | @cons _ d' _ a hd hl=>
     obtain⟨A,b,rfl,R,L⟩:=hd;obtain⟨r1,h1,s⟩:=sq (show(Q.ask (.call g args true (XC m) H nx) λr=>bkQ m r (rX P pl c tm l)).run O=some r from h);have E:(invoke (.fn (.func g) ⟨b⟩) A).run P w= .ok (.enter g (A++⟨b⟩)) w:=sn L _ _;have e:(A++⟨b⟩:Array Value)=(A.toList++b).toArray:=eU (by simp);have x:=step_defer (P:=P) (fr:={ gv (eV c ({ target:= .fn (.func g) ⟨b⟩,args:=A }::a)) tmps todo with mode:=ke mv }) (cs:=iz c.rc cs0) (LN mv) rfl rfl E;rw[e]at x;have y:Gx φ true (XC m) false ({ gv (eV c a) tmps todo with mode:=ke mv }::iz c.rc cs0):=λ_=>by
      cases hm with
      | ret=>exact λF Z=>(lA (C:={ gv (eV c a) tmps todo with mode:=ke none }) (cs:=iz c.rc cs0) Z).trans rfl
      | j_ t=>exact⟨rfl,_,_,_,[],rfl,rfl,t⟩
     obtain⟨φ1,w1,M,Y,d,I,J,D,j,hff,G⟩:=V _ _ h1 φ w _ _ hH ej R y;unfold bkQ at s;cases z:r1.o with
     | j_ v=>rw[z]at s;cases s
     | ret v=>
       rw[z]at s G;obtain⟨X,hv',n⟩:=G;have s:(rX P pl c tm l (bK r1.rc .ret m) r1.H r1.nx).run O=some r:=s;have hlen:=ye d (Ez (λk U q=>D k (by rw[<- ej];exact U) q));have B:∃p,MdR φ1 (bK r1.rc .ret m) p/\Steps P (lone M (iz r1.rc ({ gv (eV c a) tmps todo with mode:=ke mv }::iz c.rc cs0)) w1) (lone { gv (eV c a) tmps todo with mode:=ke p } (iz c.rc cs0) w1):=by
        cases si:r1.rc with
        | false=>
          cases hm with
          | ret=>exact⟨none,.ret,.one (step_going_returned (c:={ gv (eV c a) tmps todo with mode:=ke none }) j n)⟩
          | j_ t=>exact⟨some _,.j_ (t.mono d),.one (step_going_returned (c:={ gv (eV c a) tmps todo with mode:=ke (some _) }) j n)⟩
        | true=>
          refine⟨none,.ret,?_⟩;cases hm with
          | ret=>exact .one (step_going_returned (c:={ gv (eV c a) tmps todo with mode:=ke none }) j n)
          | @j_ u u' t=>exact .one (step_going_returned (c:={ gv (eV c a) tmps todo with mode:= .panicking [{ v:=u',recovered:=true }] }) j n)
       obtain⟨p,K,S⟩:=B;have ih:=vC V l (bK r1.rc .ret m) p φ1 r1.H r1.nx a w1 I J (by omega) (hl.mono d) K (htr.mono d) s;exact ih.steps (.head x (Y.trans S)) d λk U q=>D k (by omega) q
theorem tQ (l:oe P W O)(j:todo=[]\/∃k,todo= .code .ret::k):Ij P W O (Bd P pl) todo:=λc tm H nx r h φ w lo tmps ds cs0 x d=>by
 have e:Steps P (lone (gv (eV c ds) tmps todo) (iz c.rc cs0) w) (lone { gv (eV c ds) tmps todo with mode:=ke none } (iz c.rc cs0) w):=by
  rcases j with rfl | ⟨k,rfl⟩
  . exact .one (step_end (b:=gv (eV c ds) #[] []) (a:=⟨tmps,ds⟩))
  . exact .one (step_ret (b:=gv (eV c ds) #[] []) (a:=⟨tmps,ds⟩))
 exact(vC l c.df .ret none φ H nx ds w x.hH x.ej x.oJ x.Bq .ret d h).step1 e
theorem Ik (I:oe P W O){g:FuncId}{m d:List Value}(F:O (.call g m false none H nx)=some r1)(hH:HR P W φ (hp H) w)(ej:φ.length=nx)(B:LR φ m d){C:Frame}(E:C.mode= .run)(cs:List Frame):
 ∃φ1 w1,φ.le φ1/\HR P W φ1 (hp r1.H) w1/\φ1.length=r1.nx/\jz φ φ1 (hp H) (hp r1.H)/\nx<=r1.nx/\(match r1.o with
  | .ret v=>∃e,VR φ1 v e/\Steps P (lone (Frame.enter P g d.toArray .normal) (C::cs) w) (lone (C.finish e) cs w1)
  | .j_ v=>∃e,VR φ1 v e/\Steps P (lone (Frame.enter P g d.toArray .normal) (C::cs) w) (lone { C with mode:=ke (some e) } cs w1)):=by
 have t:∀l,C.mode ≠ .panicking l:=λl q=>by rw[E]at q;cases q
 obtain⟨φ1,w1,frl,x,s,D,A,y,z,hff,j⟩:=I _ _ F φ w _ (C::cs) hH ej B (λq=>by cases q);have h:jz φ φ1 (hp H) (hp r1.H):=Ez (λk G q=>y k (by rw[<- ej];exact G) q);rw[Ey _ t,Ey _ t]at x;refine⟨φ1,w1,s,D,A,h,by have:=ye s h;omega,?_⟩;cases u:r1.o with
 | ret v=>
   rw[u]at j;obtain⟨e,n,p⟩:=j;refine⟨e,n,x.trans (.one (step_leave_returned ?_))⟩;obtain⟨a,b,c⟩:=p;exact⟨a,b,z,c⟩
 | j_ v=>
   rw[u]at j;obtain⟨e,n,p⟩:=j;refine⟨e,n,x.trans (.one ?_)⟩;have:=step_going_panicked (c:=C) (cs:=cs) p;rw[show raised C.mode [{ v:=e,recovered:=false }]=ke (some e)from by rw[E];rfl]at this;exact this
theorem Br {fb:FB}{o:Oper}{i:Nat}{rest:List Nat}{v:Value}(b:ops[i]? = some o)(c:Region.wanted o (yielded ops tmps)=true)
 (j:mG P W φ H w ((execOp (gP tmps) o).run P w) v H' nx'):
 ∃φ' a w',step P (lone (gv fb tmps (.inRegion ops (i::rest)::k)) cs w)= .next (lone (gv fb (mV tmps o.dst a) (.inRegion ops rest::k)) cs w')/\
  VR φ' v a/\φ.le φ'/\HR P W φ' (hp H') w'/\φ'.length=nx'/\jz φ φ' (hp H) (hp H'):=by
 obtain⟨φ',a,w',x,d,hx,e,m,n,h,l⟩:=j;refine⟨φ',a,w',?_,e,m,n,h,l⟩;rcases hx with rfl | ⟨rfl,rfl⟩
 . exact ja b c d
 . exact xY b c d
theorem Nt {l:List Operand}:∀t,Operand.tmp t∈l->¬(λ(_:Nat)=>False) t:=λ_ _ h=>h
theorem Fx.next (x:Fx P W lo cs0 c φ H nx tmps ds w)(b:φ.le φ')(hH:HR P W φ' (hp H') w')(d:φ'.length=nx')(hn:nx<=nx'){a:Array Value}(oI:a.size=tmps.size):Fx P W lo cs0 c φ' H' nx' a ds w':=
 ⟨hH,d,ga x.oJ hn,oI.trans x.oI,x.Bq.mono b,x.si.mono b⟩
theorem Eo.refine {M:Nat->Prop}(h:Eo φ M tm tmps){d:Tmp}{v a:Value}(hd:tmps[d]? = some a)(b:VR φ v a):Eo φ M (fc tm (some d) v) tmps:=λt u q=>by
 rw[j0]at q;split at q
 . rename_i e;cases e;cases q;exact .inr ⟨a,hd,b⟩
 . exact h t u q
theorem Nu (hH:HR P W φ (hp H) w)(ej:φ.length=nx){o:Oper}{e:TypeId}{x:Operand}(s:o.op= .box e x)(m:∀v,cZ P tm x=some v->VR φ v (gP tmps x)){u:Value}(p:cZ P tm x=some u):
 ∃φ' l w',(execOp (gP tmps) o).run P w= .ok (.value l) w'/\VR φ' (ah u) l/\φ.le φ'/\HR P W φ' (hp H) w'/\φ'.length=nx+1/\jz φ φ' (hp H) (hp H):=by
 have h:=(m u p).cells;have d:Below w.heap.size w (w.alloc (.cells (gP tmps x).cells e)):=(Below.refl w.heap.size w).alloc (ax _) _;refine⟨φ++[some ⟨w.heap.size,0,0,some (gP tmps x).cells⟩],.pointer (some ⟨w.heap.size,0,none⟩),w.alloc (.cells (gP tmps x).cells e),?_,?_,fG φ _,?_,by simp[ej],?_⟩
 . simp[execOp,s,Instr.box,newVar,newRow]
 . refine VR.ep (e:=⟨w.heap.size,0,0,some (gP tmps x).cells⟩) (i_ φ _) rfl (by rw[h.len];simp) (λj a b n d=> ?_);rw[bN]at d;exact(h.at_ j a b n (by simpa using d)).mono (fG φ _)
 . refine(hH.grown d).ghost (el:=e) (fz:=(0,0)) rfl (Go.heap_alloc_new w _) (λk y ob c _ _ q=> ?_);have:=hH.tu k y c;have q:y.r=w.heap.size:=q;omega
 . intro k c;refine⟨?_,rfl⟩;rw[bc (ar.1 c).1];exact c
theorem GC (hH:HR P W φ (hp H) w)(ej:φ.length=nx){o:Oper}{t:TypeId}{d:Tmp}{x:Operand}(ho:o.op= .store t (.tmp d) x)(U:tv P φ tm (gP tmps) [.tmp d,x]){b n s:Nat}{tr:T Value}{el:TypeId}{u:Value}
 (N:cZ P tm (.tmp d)=some (.pointer (some ⟨b,0,none⟩))) (hu:cZ P tm x=some u) (hg:H.get (bits b)=some (.cells n tr el)) (hs:bT P t=some s) (hn:n=s) (Q:u.cells.toList.length=s) (E:u.cells.toList.all aC=true):
 ∃φ' G w' y,(execOp (gP tmps) o).run P w= .ok y w'/\(y= .value G\/(y= .skip/\G=undef))/\G=undef/\VR φ' (ah u) (gP tmps (.tmp d))/\φ.le φ'/\HR P W φ' (hp (set H (bits b) (some .dead))) w'/\φ'.length=nx+1/\jz φ φ' (hp H) (hp (set H (bits b) (some .dead))):=by
 subst hn;have M:eD P H nx t (cZ P tm (.tmp d)) (cZ P tm x)= .val undef (set H (bits b) (some (.cells n (iQ u.cells.toList 0 tr) el))) nx:=by
  rw[N,hu];show gM (H.get (bits b)) (λn tr e=>aw (bT P t) (λs=>bif ay u.cells.toList.length s&&bj (0+s) n&&u.cells.toList.all aC then
   iX u.cells.toList 0 tr λtr=>fQ (bits b) H (some (.cells n tr e)) λH=>iV.val undef H nx else .bad) .bad) .bad=_
  rw[hg];show aw (bT P t) (λs=>bif ay u.cells.toList.length s&&bj (0+s) n&&u.cells.toList.all aC then
   iX u.cells.toList 0 tr λtr=>fQ (bits b) H (some (.cells n tr el)) λH=>iV.val undef H nx else .bad) .bad=_
  rw[hs,aZ,Q,E,fW,bQ];have e1:ay n n=true:=cm n;have Y:bj (0+n) n=true:=by rw[bN];exact av (ax n)
  rw[e1,Y];rfl
 obtain⟨φ1,G,w1,y,J,hy,Z,R,I,h4,h5⟩:=Ed hH ej ho U M;obtain⟨p,S,_,K⟩:=(U (.tmp d) (by simp) _ N).iR;have A:=R b p S;have z:hp (set H (bits b) (some (.cells n (iQ u.cells.toList 0 tr) el))) b=some (.cells n (iQ u.cells.toList 0 tr) el):=by rw[dc,fH]
 obtain⟨c,el',B,hrsz,hrn,si⟩:=I.cells z A;have O:=I.kill z A;rw[dc,se,<- dc]at O;have L:=O.ghost (e:=⟨p.r,p.sz,p.es,some c⟩) rfl B (λk x ob l h C J=>by
  rw[dc]at h
  by_cases m:k=b
  . subst m;rw[fH]at h;cases h;cases C
  . rw[bP _ m]at h;exact m (I.inj k b _ _ x p l A (by rw[dc,bP _ m];exact h) z C rfl J))
 refine⟨_,G,w1,y,J,hy,Z.aR rfl,?_,fq.le_trans R (fG φ1 _),L,by simp[h4],?_⟩
 . rw[K];refine VR.ep (e:=⟨p.r,p.sz,p.es,some c⟩) (c:=c) (i_ φ1 _) rfl (by rw[Q];omega) (λj a b' D F=> ?_);have hjl:j<u.cells.toList.length:=(ar.1 D).1;obtain⟨a',g1,X⟩:=si j (by omega) a (by rw[gz,if_pos (by omega),iu];exact D);rw[bN,g1]at F;cases F;exact X.mono (fG φ1 _)
 . intro k l;obtain⟨V,q2⟩:=h5 k l;refine⟨?_,?_⟩
   . rw[bc (ar.1 V).1];exact V
   . rw[dc,bP];intro q;subst q;rw[S]at l;cases l
theorem Nv {o:Oper}(h:R5 pl fn o=true):(∃e x,o.op= .box e x)\/∃t d x,o.op= .store t (.tmp d) x:=by
 unfold R5 at h;split at h
 . rename_i e x b;exact .inl ⟨e,x,b⟩
 . rename_i t d x b;exact .inr ⟨t,d,x,b⟩
 . cases h
theorem oQ (hO:oe P W O){K:Kt}(hK:Ij P W O K k):∀l:List Nat,Ij P W O (qF P pl ops K l) (.inRegion ops l::k)
 | [],c,tm,H,nx,r,h=>(hK c tm H nx r h).step1 λds tmps cs w=> .one (step_region_end (b:=gv (eV c ds) #[] []) (a:=⟨tmps,ds⟩))
 | i::rest,c,tm,H,nx,r,h=>λφ w lo tmps ds cs0 x p=>by
   obtain⟨o,E,h⟩:=dn (show(Ev.aw ops[i]? (opR P pl ops c tm H nx (qF P pl ops K rest)) .bad).run O=some r from h);unfold opR at h;obtain⟨b,hb,hy,hn⟩:=Am h;have L:Region.wanted o (yielded ops tmps)=b:=tN p (λ_ _ _ _ h=>h) hb;have hE:tv P φ tm (gP tmps) o.op.operands.toList:=Bo x.hH.gl p Nt;have next:∀{φ':fq} {H':T OB} {nx':Nat} {w':World} {v z:Value},
    Steps P (lone (gv (eV c ds) tmps (.inRegion ops (i::rest)::k)) (iz c.rc cs0) w) (lone (gv (eV c ds) (mV tmps o.dst z) (.inRegion ops rest::k)) (iz c.rc cs0) w')->
    φ.le φ'->HR P W φ' (hp H') w'->φ'.length=nx'->nx<=nx'->jz φ φ' (hp H) (hp H')->VR φ' v z->((∀d,o.dst=some d->d<c.nt)/\(qF P pl ops K rest c (fc tm o.dst v) H' nx').run O=some r)->
    gb P W c.kd c.fn lo cs0 c.rc φ H r (gv (eV c ds) tmps (.inRegion ops (i::rest)::k)) w:=λJ m hH' hl hn U hv G=>by
    obtain⟨hd,G⟩:=G;have S:∀d,o.dst=some d->d<tmps.size:=λd h=>by rw[x.oI];exact hd d h
    exact gb.steps J m (λk _ q=>U k q) (oQ hO hK rest _ _ _ _ _ G _ _ _ _ ds cs0 (x.next m hH' hl hn (iJ ..)) ((p.mono m).put S hv λt h _=>h))
   cases b with
   | false=>exact next (.one (xZ E L)) φ.le_refl x.hH x.ej (ax _) (jz.refl _ _) (.flat undef rfl) (fS (hn rfl))
   | true=>
     have h:=hy rfl;unfold doR at h;rcases iM h with⟨hrd,h⟩ | ⟨hrd,h⟩
     . obtain⟨v,hv,h⟩:=dn h;obtain⟨z,D,j⟩:=xN x.hH hE hv;exact next (.one (ja E L j)) φ.le_refl x.hH x.ej (ax _) (jz.refl _ _) D (sr h)
     . rcases iM h with⟨hct,h⟩ | ⟨hct,h⟩
       . cases I:ef P H nx tm o with
         | bad=>rw[I]at h;cases h
         | val v H' nx'=>rw[I]at h;cases h
         | call g B=>
           rw[I]at h;obtain⟨args',D,hok,j⟩:=Ig hE I;obtain⟨r1,h3,N⟩:=sq (show(Q.ask (.call g B false none H nx) _).run O=some r from h);obtain⟨φ1,w1,m,hH1,hl1,U,hn1,Z⟩:=Ik hO h3 x.hH x.ej D (C:=gv (eV c ds) tmps (.inRegion ops (i::rest)::k)) rfl (iz c.rc cs0);cases X:r1.o with
           | ret v=>
             rw[X]at Z;simp only[X]at N;obtain⟨z,R,J⟩:=Z;rw[rq E]at J;exact next (.head (nF E L (j w)) J) m hH1 hl1 hn1 U R (sr N)
           | j_ v=>
             rw[X]at Z;simp only[X]at N;obtain⟨z,R,J⟩:=Z;exact(vC hO c.df (.j_ v) (some z) φ1 r1.H r1.nx ds w1 hH1 hl1 (by have:=x.oJ;omega) (x.Bq.mono m) (.j_ R) (p.mono m) N).steps (.head (nF E L (j w)) J) m λk _ q=>U k q
         | dfr g B=>
           rw[I]at h;obtain⟨d',D,j⟩:=XR hE I;obtain⟨hd,G⟩:=fS (show(nv c.nt tm o.dst undef (λtm=>qF P pl ops K rest ⟨c.fn,c.nt,c.kd,(g,B)::c.df,c.rp,c.rc⟩ tm H nx) .bad).run O=some r from h);have S:∀d,o.dst=some d->d<tmps.size:=λd h=>by rw[x.oI];exact hd d h
           have hx:Fx P W lo cs0 ⟨c.fn,c.nt,c.kd,(g,B)::c.df,c.rp,c.rc⟩ φ H nx (mV tmps o.dst undef) (d'::ds) w:=⟨x.hH,x.ej,x.oJ,(iJ ..).trans x.oI,.cons D x.Bq,x.si⟩;exact gb.step1 (.one (Nk E L (j w))) (oQ hO hK rest _ _ _ _ _ G _ _ _ _ _ _ hx (p.put S (.flat _ rfl) λt h _=>h))
         | j_ v=>
           rw[I]at h;obtain⟨z,D,j⟩:=Nh hE I;exact(vC hO c.df (.j_ v) (some z) φ H nx ds w x.hH x.ej x.oJ x.Bq (.j_ D) p h).step1 (.one (En E L (j w)))
         | rcv=>
           rw[I]at h;have h:(aaN c λc v=>nv c.nt tm o.dst v (λtm=>qF P pl ops K rest c tm H nx) .bad).run O=some r:=h;have j:=XS (ρ:=gP tmps) I w;have M:tryRecover (gv (eV c ds) tmps (.inRegion ops (i::rest)::k)) (iz c.rc cs0)=none->(nv c.nt tm o.dst .nilIface (λtm=>qF P pl ops K rest c tm H nx) .bad).run O=some r->
            gb P W c.kd c.fn lo cs0 c.rc φ H r (gv (eV c ds) tmps (.inRegion ops (i::rest)::k)) w:=λht G=>
            next (.one (zK E L j ht)) φ.le_refl x.hH x.ej (ax _) (jz.refl _ _) (.flat .nilIface rfl) (fS G)
           obtain⟨Y,DP,ckd,V,crp,crc⟩:=c;have si:Gx φ ckd crp crc cs0:=x.si;cases ckd with
           | false=>exact M (Gy rfl) h
           | true=>
             have hk2:(gv (eV ⟨Y,DP,true,V,crp,crc⟩ ds) tmps (.inRegion ops (i::rest)::k)).kind= .deferred:=rfl;have si:=si rfl;cases crp with
             | none=>exact M (si _ hk2) h
             | some v=>
               obtain⟨q,C,rs,z,older,hcs,hC,hv⟩:=si;subst q hcs;obtain⟨hd,G⟩:=fS (show(nv DP tm o.dst v (λtm=>qF P pl ops K rest ⟨Y,DP,true,V,none,true⟩ tm H nx) .bad).run O=some r from h);have oI:tmps.size=DP:=x.oI;have S:∀d,o.dst=some d->d<tmps.size:=λd h=>by rw[oI];exact hd d h
               have ht:tryRecover (gv (eV ⟨Y,DP,true,V,some v,false⟩ ds) tmps (.inRegion ops (i::rest)::k)) (C::rs)=some (z,Ex (C::rs)):=by
                rw[lA hk2];unfold Ex;simp only[hC]
               have hx:Fx P W lo (C::rs) ⟨Y,DP,true,V,none,true⟩ φ H nx (mV tmps o.dst z) ds w:=⟨x.hH,x.ej,x.oJ,(iJ ..).trans oI,x.Bq,λ_ F hF=>No (cs:=C::rs) hF⟩;exact gb.steps (rc1:=true) (.one (zL E L j ht)) φ.le_refl (λ_ _ q=>⟨q,rfl⟩) (oQ hO hK rest _ _ _ _ _ G _ _ _ _ _ _ hx (p.put S hv λt h _=>h))
       . rcases iM h with⟨hfr,h⟩ | ⟨hfr,h⟩
         . rcases Nv hfr with⟨e,y,A⟩ | ⟨t,d,y,A⟩
           . unfold frQ at h;simp only[A]at h;obtain⟨u,hu,h⟩:=dn (show(aw (cZ P tm y) (λv=>eF (cS nx) λn=>nv c.nt tm o.dst (ah v) (λtm=>qF P pl ops K rest c tm H n) .bad) .bad).run O=some r from h);rw[bW]at h;obtain⟨φ',z,w',J,D,j,h3,N,h5⟩:=Nu x.hH x.ej A (λv hv=>hE y (by rw[A];simp[Op.operands]) v hv) hu;exact next (.one (ja E L J)) j h3 N (jl _) h5 D (fS h)
           . unfold frQ at h;simp only[A]at h;obtain⟨b,off,ha,h⟩:=Nq (show(HV P c.nt tm H nx t d o.dst (cZ P tm (.tmp d)) (cZ P tm y) λtm H nx=>qF P pl ops K rest c tm H nx).run O=some r from h);obtain⟨u,hu,h⟩:=dn h;obtain⟨n,tr,el,hg,h⟩:=Gz h;obtain⟨s,J,h⟩:=dn h;obtain⟨hc,G⟩:=py h;rw[bQ,bW]at G;simp only[ae]at hc;have hn:=beq_eq hc.2.1;have hl:=beq_eq hc.2.2.1;obtain⟨hd,hq1⟩:=fS G;obtain⟨hd2,hq2⟩:=fS hq1;have hoff:=beq_eq hc.1;clear h G hq1;subst hoff;obtain⟨φ',z,w',y',hr,hy',R,D,j,h3,N,h5⟩:=GC x.hH x.ej A (by rw[A]at hE;exact hE) ha hu hg J hn hl hc.2.2.2;have hst:step P (lone (gv (eV c ds) tmps (.inRegion ops (i::rest)::k)) (iz c.rc cs0) w)= .next (lone (gv (eV c ds) (mV tmps o.dst z) (.inRegion ops rest::k)) (iz c.rc cs0) w'):=by
              rcases hy' with rfl | ⟨rfl,rfl⟩
              . exact ja E L hr
              . exact xY E L hr
             have hdd:d<tmps.size:=by rw[x.oI];exact hd d rfl
             have hd2':∀e,o.dst=some e->e<tmps.size:=λe q=>by rw[x.oI];exact hd2 e q
             have htd:tmps[d]? = some (gP tmps (.tmp d)):=by
              rw[cE hdd];show _=some (tmps.getD d undef);simp[Array.getD,hdd]
             have ht1:=(p.mono j).refine htd D;refine gb.steps (.one hst) j (λk _ q=>h5 k q) (oQ hO hK rest _ _ _ _ _ hq2 _ _ _ _ ds cs0 (x.next j h3 N (jl _) (iJ ..)) ?_);exact ht1.put hd2' (by rw[R];exact .flat undef rfl) λt h _=>h
         . obtain⟨v,H',nx',I,h⟩:=vB h;obtain⟨φ',z,w',J,D,j,h3,N,h5⟩:=Br (fb:=eV c ds) (k:=k) (cs:=iz c.rc cs0) (rest:=rest) E L (xR x.hH x.ej hE I);have hn:nx<=nx':=by have:=ye j h5;rw[x.ej,N]at this;exact this
           exact next (.one J) j h3 N hn h5 D (fS h)
theorem yh (hO:oe P W O){K:Kt}(hK:Ij P W O K k):∀(l:List (Nat×List Nat)) (tm:T Value) (H:T OB) (nx:Nat) (φ:fq) (tmps:Array Value) (w:World) (π done ng:List Nat) (κ:Nat->Nat),
 (zZ P pl ops K l c tm H nx).run O=some r->Fx P W lo cs0 c φ H nx tmps ds w->jG P φ H tm tmps ops done ng l π κ lo nx->oM P H tm ops done π->gb P W c.kd c.fn lo cs0 c.rc φ H r (gv (eV c ds) tmps (.inRegion ops π::k)) w
 | [],tm,H,nx,φ,tmps,w,π,done,ng,κ,h,x,hD,hL=>by
   obtain⟨φ',tmps',w',π',Y,z,hH',hlen,hk,hD',_,hz,hn⟩:=yb (fn:=eV c ds) (k:=k) (cs:=iz c.rc cs0) π φ tmps w x.hH hD hL;have:=hD'.last hn;subst this;refine gb.steps (Y.trans (.one (step_region_end (b:=gv (eV c ds) #[] []) (a:=⟨tmps',ds⟩)))) z (λk hk' q=>⟨hk k hk' q,rfl⟩) (hK c tm H nx r h _ _ _ _ ds cs0 (x.next z hH' (hlen.trans x.ej) (ax _) hz) ?_);exact λt v hv=>(hD'.tr t v hv).imp (λ⟨p,hp,_⟩=>absurd hp cO) id
 | (i,chk)::rest,tm,H,nx,φ,tmps,w,π,done,ng,κ,h,x,hD,hL=>by
   obtain⟨o,N,hni,hrdy,hpr,hpe⟩:=mm hD.LK;obtain⟨o',ho',h⟩:=dn (show(Ev.aw ops[i]? (opD P pl ops chk c tm H nx (zZ P pl ops K rest)) .bad).run O=some r from h);rw[N]at ho';cases ho';unfold opD at h;obtain⟨b,hb,hy,hn0⟩:=Am h;have oI:=x.oI;have J:∀{φ':fq} {H':T OB} {nx':Nat} {κ':Nat->Nat} {u:Value},oE (nw ops) i o=true->(∀d,o.dst=some d->d<c.nt)->φ.le φ'->
    (∀k,k<nx->φ[k]? = some none->φ'[k]? = some none/\hp H' k=hp H k)->(∀p,p≠i->κ' p=κ p)->nx<=nx'->HR P W φ' (hp H') w->φ'.length=nx'->
    Er P φ' H' (fc tm o.dst u) ops κ' lo nx' i o->(xu o.op=true->nx<=κ' i)->(∀k ob,hp H k=some ob->hp H' k=some ob)->
    (rW o.op=true->dX (fc tm o.dst u) ops o=some true->rd P H' (fc tm o.dst u) o=some u)->
    (zZ P pl ops K rest c (fc tm o.dst u) H' nx').run O=some r->gb P W c.kd c.fn lo cs0 c.rc φ H r (gv (eV c ds) tmps (.inRegion ops π::k)) w:=by
    intro φ' H' nx' κ' u R hd z hk hκ hn hH' hl hprom hfresh hext G D;have hna:i∉nZ ops:=Nl λhm=>by
     have hm':(nw ops).contains i=true:=by simpa using hm
     unfold oE at R;rw[hm',cM,cU]at R;cases R
    refine gb.steps (.refl _ _) z (λk hk' q=>hk k (by have:=x.oJ;omega) q) (yh hO hK rest _ H' nx' φ' tmps w π (i::done) _ κ' D (x.next z hH' hl hn rfl)
     (hD.take N hna hni hrdy (hpr R) (λp hp=> ?_) (λhl=> ?_) z hk hκ hn (λd h=>by rw[oI];exact hd d h) hprom hfresh) (hL.take hD.sa hD.ready N hna hni hext G))
    . split
      . exact aH _ hp
      . exact hp
    . rw[if_pos hl];simp
   have G:∀{d:Tmp},o.dst=some d->d∉o.looksAt ops:=λhd=>Nm hD.sa hD.ac N hd;have e1:∀u,dX (fc tm o.dst u) ops o=dX tm ops o:=λu=>oP (i:=i) (p:=i) λd hd=>G hd;have e2:∀u H,rd P H (fc tm o.dst u) o=rd P H tm o:=λu H=>tP λd hd=>G hd;have e3:∀u d,o.dst=some d->(fc tm o.dst u).get (bits d)=some u:=λu d hd=>by rw[j0,if_pos hd]
   have M:oE (nw ops) i o=false->∃φ1 m w1 l,Steps P (lone (gv (eV c ds) tmps (.inRegion ops π::k)) (iz c.rc cs0) w) (lone (gv (eV c ds) m (.inRegion ops (i::l)::k)) (iz c.rc cs0) w1)/\
    φ.le φ1/\(∀k,k<lo->φ[k]? = some none->φ1[k]? = some none/\hp H k=hp H k)/\Fx P W lo cs0 c φ1 H nx m ds w1/\jG P φ1 H tm m ops done ng ((i,chk)::rest) (i::l) κ lo nx/\
    Region.wanted o (yielded ops m)=b/\tv P φ1 tm (gP m) o.op.operands.toList:=by
    intro R;obtain⟨φ1,m,w1,π',Y,z,hH1,hlen,hk,s,_,hz,hn⟩:=yb (fn:=eV c ds) (k:=k) (cs:=iz c.rc cs0) π φ tmps w x.hH hD hL;obtain⟨l,rfl⟩:=s.head N R hn;exact⟨φ1,m,w1,l,Y,z,λj hj q=>⟨hk j hj q,rfl⟩,x.next z hH1 (hlen.trans x.ej) (ax _) hz,s,
     tN s.tr (λp hp d hd=>px s.RQ s.own N (oO hp hd)) hb,Bo hH1.gl s.tr λt ht=>px s.RQ s.own N (oN ht)⟩
   have X:∀{φ1 φ2:fq} {H':T OB} {nx':Nat} {m:Array Value} {w1 w2:World} {l:List Nat} {v v':Value},oE (nw ops) i o=false->Fx P W lo cs0 c φ1 H nx m ds w1->jG P φ1 H tm m ops done ng ((i,chk)::rest) (i::l) κ lo nx->
    Steps P (lone (gv (eV c ds) m (.inRegion ops (i::l)::k)) (iz c.rc cs0) w1) (lone (gv (eV c ds) (mV m o.dst v') (.inRegion ops l::k)) (iz c.rc cs0) w2)->
    φ1.le φ2->HR P W φ2 (hp H') w2->φ2.length=nx'->nx<=nx'->jz φ1 φ2 (hp H) (hp H')->VR φ2 v v'->((∀d,o.dst=some d->d<c.nt)/\(xx P H' (fc tm o.dst v) ops chk (zZ P pl ops K rest c (fc tm o.dst v) H' nx')).run O=some r)->
    gb P W c.kd c.fn lo cs0 c.rc φ1 H r (gv (eV c ds) m (.inRegion ops (i::l)::k)) w1:=by
    intro φ1 φ2 H' nx' m w1 w2 l v v' R A s Y z hH2 hl hn hkp hv D;obtain⟨hd,D⟩:=D;unfold xx at D;rcases iM D with⟨hchk,D⟩ | ⟨_,D⟩
    . obtain⟨h6,h7⟩:=s.finish (H':=H') N R z (λj _ q=>hkp j q) hn hv (λd h=>by rw[A.oI];exact hd d h) hchk;exact gb.steps Y z (λk _ q=>hkp k q) (yh hO hK rest _ _ _ _ _ _ _ _ _ _ D (A.next z hH2 hl hn (iJ ..)) h6 h7)
    . exact(kV D).elim
   cases b with
   | true=>
     have h:=hy rfl;unfold doD at h;rcases iM h with⟨Z,h⟩ | ⟨Z,h⟩
     . obtain⟨v,hv,h⟩:=dn h;obtain⟨hd,D⟩:=sr h;cases hf:oE (nw ops) i o with
       | false=>
         obtain rfl:chk=[]:=(hpe hf).1 Z;obtain⟨φ1,m,w1,l,Y,F,U,A,s,E,L⟩:=M hf;obtain⟨v',hvr,hrun⟩:=xN A.hH L hv;exact gb.steps Y F U (X hf A s (.one (ja N E hrun)) φ1.le_refl A.hH A.ej (ax _) (jz.refl _ _) hvr ⟨hd,by unfold xx;exact D⟩)
       | true=>
       exact J (u:=v) (κ':=κ) hf hd φ.le_refl (λk _ q=>⟨q,rfl⟩) (λ_ _=>rfl) (ax _) x.hH x.ej
        (.inr (.inl ⟨(e1 v).trans hb,Z,v,e3 v,λ_=>(e2 v H).trans hv⟩)) (λS=>by
         rw[Ii S]at Z;cases Z) (λ_ _ h=>h) (λ_ _=>(e2 v H).trans hv) D
     . rcases iM h with⟨S,h⟩ | ⟨S,h⟩
       . cases hf:oE (nw ops) i o with
         | false=>
           obtain⟨φ1,m,w1,l,Y,F,U,A,s,E,L⟩:=M hf;refine gb.steps Y F U ?_;obtain⟨v,H',nx',he,h⟩:=vB h;obtain⟨φ2,v',w2,I,h1,h2,h3,B,h5⟩:=Br (fb:=eV c ds) (k:=k) (cs:=iz c.rc cs0) (rest:=l) N E (xR A.hH A.ej L he);have hn:nx<=nx':=by have:=ye h2 h5;rw[A.ej,B]at this;exact this
           exact X hf A s (.one I) h2 h3 B hn h5 h1 (fS h)
         | true=>
         obtain⟨v,H',nx',he2,h⟩:=vB h;obtain⟨e,l,mk,hz,rfl,rfl,rfl⟩:=aaW S he2;obtain⟨hd,D⟩:=fS h;unfold xx at D;have D:=(iM D).elim (λq=>q.2) (λq=>(kV q.2).elim);have hnone:hp H nx=none:=by
          cases hx:hp H nx with
          | none=>rfl
          | some ob=>have:=x.hH.uJ nx ob hx;have:=x.ej;omega
         have ej:=x.ej;subst ej;refine J (u:=mk φ.length) (κ':=λp=>if p=i then φ.length else κ p) (φ':=φ++[none]) hf hd (fG φ _) (λj hj q=>⟨?_,?_⟩) (λp hp=>if_neg hp) (jl _) ?_ (by simp)
          (.inr (.inr ⟨(e1 _).trans hb,S,e,l,mk,Al (λy hy=>tO tm o.dst _ y λd hd q=>by
           subst q;exact G hd (oN hy)) hz,?_,?_,?_,?_,λd hd=> ?_⟩)) (λ_=> ?_) (λj ob hj=> ?_) (λhl=> ?_) D
         . rw[bc hj];exact q
         . rw[dc,bP _ (by omega)]
         . rw[dc];exact x.hH.aaU _
         . dsimp only;rw[if_pos rfl];exact i_ φ _
         . dsimp only;rw[if_pos rfl,dc,fH]
         . dsimp only;rw[if_pos rfl];exact x.oJ
         . dsimp only;rw[if_pos rfl];omega
         . dsimp only;rw[if_pos rfl];exact e3 _ d hd
         . rw[if_pos rfl];exact ax _
         . rw[dc]
           by_cases hjn:j=φ.length
           . subst hjn;rw[hnone]at hj;cases hj
           . rw[bP _ hjn];exact hj
         . rw[Sj S]at hl;cases hl
       . have R:oE (nw ops) i o=false:=by unfold oE;rw[Z,S];rfl
         obtain⟨φ1,m,w1,l,Y,F,U,A,s,E,L⟩:=M R;refine gb.steps Y F U ?_;rcases iM h with⟨hct,h⟩ | ⟨hct,h⟩
         . cases he:ef P H nx tm o with
           | bad=>rw[he]at h;cases h
           | val v H' nx'=>rw[he]at h;cases h
           | dfr g args=>rw[he]at h;cases h
           | rcv=>rw[he]at h;cases h
           | call g args=>
             rw[he]at h;obtain⟨args',h1,hok,h2⟩:=Ig L he;obtain⟨r1,h3,B⟩:=sq (show(Q.ask (.call g args false none H nx) _).run O=some r from h);obtain⟨φ2,w2,z,hH2,hl2,hkp,hn1,ho1⟩:=Ik hO h3 A.hH A.ej h1 (C:=gv (eV c ds) m (.inRegion ops (i::l)::k)) rfl (iz c.rc cs0);cases hr1:r1.o with
             | ret v=>
               rw[hr1]at ho1;simp only[hr1]at B;obtain⟨v',hv',I⟩:=ho1;rw[rq N]at I;exact X R A s (.head (nF N E (h2 w1)) I) z hH2 hl2 hn1 hkp hv' (sr B)
             | j_ v=>
               rw[hr1]at ho1;simp only[hr1]at B;obtain⟨v',hv',I⟩:=ho1;rcases iM B with⟨V,B⟩ | ⟨_,B⟩
               . have V:=List.isEmpty_iff.1 V;obtain⟨fd,hfd,B⟩:=dn (show(aw P.funcs[c.fn]? (λ_=>Q.ret ⟨.j_ v,c.rc,r1.H,r1.nx⟩) .bad).run O=some r from B);have B:=vA B;subst B;have Bq:=A.Bq;rw[V]at Bq;cases Bq;exact⟨φ2,w2,_,.head (nF N E (h2 w1)) I,z,hH2,hl2,λk _ q=>hkp k q,rfl,rfl,v',hv',rfl,rfl,fd,hfd⟩
               . exact(kV B).elim
           | j_ v=>
             rw[he]at h;obtain⟨v',h1,h2⟩:=Nh L he;rcases iM h with⟨V,B⟩ | ⟨_,B⟩
             . have V:=List.isEmpty_iff.1 V;obtain⟨fd,hfd,B⟩:=dn (show(aw P.funcs[c.fn]? (λ_=>Q.ret ⟨.j_ v,c.rc,H,nx⟩) .bad).run O=some r from B);have B:=vA B;subst B;have Bq:=A.Bq;rw[V]at Bq;cases Bq;exact⟨φ1,w1,_,.one (En N E (h2 w1)),φ1.le_refl,A.hH,A.ej,λk _ q=>⟨q,rfl⟩,rfl,rfl,v',h1,rfl,rfl,fd,hfd⟩
             . exact(kV B).elim
         . rcases iM h with⟨hfr,h⟩ | ⟨hfr,h⟩
           . simp only[ae]at hfr;obtain⟨e,y,hop⟩:∃e y,o.op= .box e y:=by
              have hb:=hfr.2;unfold VM at hb;split at hb
              . rename_i e y hop;exact⟨e,y,hop⟩
              . cases hb
             unfold frQ at h;simp only[hop]at h;obtain⟨u,hu,h⟩:=dn (show(aw (cZ P tm y) (λv=>eF (cS nx) λn=>nv c.nt tm o.dst (ah v) (λtm=>xx P H tm ops chk (zZ P pl ops K rest c tm H n)) .bad) .bad).run O=some r from h);rw[bW]at h;obtain⟨φ2,v',w2,I,h1,h2,h3,B,h5⟩:=Nu A.hH A.ej hop (λv hv=>L y (by rw[hop];simp[Op.operands]) v hv) hu;exact X R A s (.one (ja N E I)) h2 h3 B (jl _) h5 h1 (fS h)
           . obtain⟨v,H',nx',he,h⟩:=vB h;obtain⟨φ2,v',w2,I,h1,h2,h3,B,h5⟩:=Br (fb:=eV c ds) (k:=k) (cs:=iz c.rc cs0) (rest:=l) N E (xR A.hH A.ej L he);have hn:nx<=nx':=by have:=ye h2 h5;rw[A.ej,B]at this;exact this
             exact X R A s (.one I) h2 h3 B hn h5 h1 (fS h)
   | false=>
     obtain⟨hd,D⟩:=fS (hn0 rfl);cases R:oE (nw ops) i o with
     | true=>
       unfold xx at D;rcases iM D with⟨hchk,D⟩ | ⟨_,D⟩
       . refine J (u:=undef) (κ':=λp=>if p=i then nx else κ p) R hd φ.le_refl (λk _ q=>⟨q,rfl⟩) (λp hp=>if_neg hp) (ax _) x.hH x.ej
          (.inl ⟨(e1 _).trans hb,e3 _⟩) (λ_=> ?_) (λ_ _ h=>h) (λ_ hw=> ?_) D
         . rw[if_pos rfl];exact ax _
         . rw[e1,hb]at hw;cases hw
       . exact(kV D).elim
     | false=>
       obtain⟨φ1,m,w1,l,Y,F,U,A,s,E,_⟩:=M R;exact gb.steps Y F U (X R A s (.one (xZ N E)) φ1.le_refl A.hH A.ej (ax _) (jz.refl _ _) (.flat undef rfl) (fS (hn0 rfl)))
end
end
end Go.Ev
