/- Texts of this claim, side by side. -/
import Derived.Test.YthjhonhhbddhkaaGreatDoorG1
import Derived.Scope
import Derived.Recover
namespace Go.Ev
open Go.RowKit (Below)
noncomputable section
set_option maxRecDepth 100000
set_option linter.unusedVariables false
set_option linter.unusedSimpArgs false
section
variable {P:Program}{W w:World}{φ:cO}{H:T OB}{tm:T Value}{ρ:Operand->Value}{g:Nat->Option OB}
theorem HR.alias (hH:HR P W φ g w){e:gR}{ob:OB}(hr:e.r<w.heap.size)(hno:∀k ob x,g k=some ob->live ob=true->φ[k]? = some (some x)->x.r≠e.r)
 (h0:e.fz=none) (hfz:∀(k:Nat) (x:gR) (c:Array Value),φ[k]? = some (some x)->x.fz=some c->e.r≠x.r) (hob:yD P W φ ob e w):
 HR P W (φ++[some e]) (nZ g φ.length (some ob)) w where
 below:=hH.below
 gl:=hH.KU (cV φ _)
 oT:=λk o h=>by
  simp only[List.length_append,List.length_singleton]
  by_cases hk:k=φ.length
  . omega
  . rw[bg g hk]at h;have:=hH.oT k o h;omega
 nS:=λk x h=>by
  rcases bU h with h | ⟨_,h⟩
  . exact hH.nS k x h
  . cases h;exact hr
 inj:=λk k' o1 o2 x x' h h' hg hg' hl hl' hrr=>by
  rcases bU h with h0 | ⟨hk,hx⟩
  . have l0:=(List.getElem?_eq_some_iff.1 h0).1;rw[bg g (by omega)]at hg;rcases bU h' with h1 | ⟨hk',hx'⟩
    . have l1:=(List.getElem?_eq_some_iff.1 h1).1;rw[bg g (by omega)]at hg';exact hH.inj k k' o1 o2 x x' h0 h1 hg hg' hl hl' hrr
    . cases hx';exact absurd hrr (hno k o1 x hg hl h0)
  . cases hx;rcases bU h' with h1 | ⟨hk',hx'⟩
    . have l1:=(List.getElem?_eq_some_iff.1 h1).1;rw[bg g (by omega)]at hg';exact absurd hrr.symm (hno k' o2 x' hg' hl' h1)
    . exact hk.trans hk'.symm
 obj:=λk oa x hg h=>by
  rcases bU h with h0 | ⟨hk,hx⟩
  . have l0:=(List.getElem?_eq_some_iff.1 h0).1;rw[bg g (by omega)]at hg;exact(hH.obj k oa x hg h0).mono (cV φ _)
  . cases hx;subst hk;rw[cZ]at hg;cases hg;exact hob.mono (cV φ _)
 km:=λk x c h hf=>by
  rcases bU h with h1 | ⟨_,hx⟩
  . exact hH.km k x c h1 hf
  . cases hx;rw[h0]at hf;cases hf
 rq:=λk k' x x' c o h hf h' hg hl=>by
  rcases bU h with h1 | ⟨_,hx⟩
  . rcases bU h' with h2 | ⟨_,hx'⟩
    . have l2:=(List.getElem?_eq_some_iff.1 h2).1;rw[bg g (by omega)]at hg;exact hH.rq k k' x x' c o h1 hf h2 hg hl
    . cases hx';exact hfz k x c h1 hf
  . cases hx;rw[h0]at hf;cases hf
theorem HR.Pw (hH:HR P W φ g w){k n n':Nat}{t t':T Value}{el:TypeId}{e:gR}(hg:g k=some (.cells n t el))(hk:φ[k]? = some (some e))(hn:n'<=n)
 (ht:∀i,i<n'->t'.get (bits i)=t.get (bits i)):HR P W φ (nZ g k (some (.cells n' t' el))) w:=by
 obtain⟨h1,⟨c,el',h2,h3,h4,h5⟩,h6⟩:=hH.obj k _ e hg hk;exact hH.put hg rfl hk hH.below rfl (λ_ _=>rfl) ⟨h1,⟨c,el',h2,h3,by omega,λi hi v hv=>h5 i (by omega) v (by rw[<- ht i hi];exact hv)⟩,h6⟩
section ops
variable {o:Oper}{v:Value}{H':T OB}{nx nx':Nat}
theorem g8 {w:World}{r off:Nat}{c:Array Value}{el:TypeId}{fz:Nat×Nat}(hr:w.heap[r]? = some (.cells c el fz)){s:Nat}:
 ∀(j:Nat) (v:Value),((c.toList.drop off).take s)[j]? = some v->w.cell? ((⟨r,off,none⟩:Addr).add j)=some v:=λj v hv=>by
 rw[du,cell_of_row w r (off+j) c el fz hr];rw[List.getElem?_take]at hv;split at hv
 . rw[List.getElem?_drop]at hv;simpa using hv
 . cases hv
theorem tC (hH:HR P W φ (hp H) w){s n c:Nat}{base:Option Addr}{x':Value}{xs:List Value}(hv:VR φ (.slice base n c) x')(h:cellsOf H s base n=some xs):
 ∃xs',LR φ xs xs'/\xs'.length=n*s/\
  ((base=none/\n=0/\x'= .slice none n c)\/∃a c',x'= .slice (some a) n c'/\∀j v,xs'[j]? = some v->w.cell? (a.add j)=some v):=by
 cases base with
 | none=>
   obtain⟨h1,h2⟩:=aY (show(bif Nat.beq n 0 then some []else none)=some xs from h);cases h2;have h1:=beq_eq h1;subst h1;have:=hv.aI rfl;exact⟨[],.nil,by simp,.inl ⟨rfl,rfl,this⟩⟩
 | some a=>
   obtain⟨b,off,sp⟩:=a;obtain⟨e,c',hb,rfl,rfl,_⟩:=hv.eY;have h:tq (H.get (bits b)) (λm tr=>bif Nat.ble (off+n*s) m then pE tr (n*s) off else none) none=some xs:=h;obtain⟨m,tr,hg,h⟩:=rj h;obtain⟨hle,hl⟩:=aY h;obtain⟨cs,el',fz,hr,hn,hc⟩:=hH.row hg hb;have hle:=c_ hle;obtain⟨h1,h2⟩:=l_ hc hl hle hn;exact⟨_,h1,by rw[<- h1.len,h2],.inr ⟨_,c',rfl,g8 hr⟩⟩
theorem lU {w:World}{x':Value}{n s:Nat}{xs':List Value}(hl:xs'.length=n*s)
 (h:(n=0/\∃c,x'= .slice none n c)\/∃a c',x'= .slice (some a) n c'/\∀j v,xs'[j]? = some v->w.cell? (a.add j)=some v):
 (Builtin.firstCells s n x').run P w= .ok xs'.toArray w/\(Builtin.lenOf x').run P w= .ok n w:=by
 rcases h with⟨rfl,c,rfl⟩ | ⟨a,c',rfl,h⟩
 . have:xs'=[]:=by
    cases xs' with
    | nil=>rfl
    | cons _ _=>simp at hl
   subst this;exact⟨rfl,rfl⟩
 . exact⟨run_firstCells_some w s n a n c' xs' hl h,rfl⟩
theorem tD {es:List Value}{s:Nat}(h:∀x∈es,x.cells.toList.length=s):(es.flatMap λu=>u.cells.toList).length=es.length*s:=by
 induction es with
 | nil=>simp
 | cons x es ih=>
   rw[List.flatMap_cons,List.length_append,h x (by simp),ih λy hy=>h y (by simp[hy]),List.length_cons,Nat.succ_mul];omega
theorem yI {es:List Value}{s:Nat}(h:∀x∈es,x.cells.toList.length=s):∀(m:Nat) (v:Value),(es.flatMap λu=>u.cells.toList)[m]? = some v->∃i j x,m=i*s+j/\es[i]? = some x/\x.cells.toList[j]? = some v:=by
 induction es with
 | nil=>intro m v hv;simp at hv
 | cons x es ih=>
   intro m v hv;rw[List.flatMap_cons]at hv;have hx:=h x (by simp)
   by_cases hm:m<x.cells.toList.length
   . rw[List.getElem?_append_left hm]at hv;exact⟨0,m,x,by omega,rfl,hv⟩
   . rw[List.getElem?_append_right (by omega),hx]at hv;obtain⟨i,j,y,h1,h2,h3⟩:=ih (λy hy=>h y (by simp[hy])) _ v hv;refine⟨i+1,j,y,?_,by simpa using h2,h3⟩;rw[hx]at hm;rw[Nat.succ_mul];omega
theorem AD (hH:HR P W φ (hp H) w){s xl:Nat}{xv x':Value}{xs:List Value}(hv:VR φ xv x')(h:pz H s xv=some (xl,xs)):
 ∃xs',LR φ xs xs'/\xs'.length=xl*s/\((xl=0/\∃c,x'= .slice none xl c)\/∃a c',x'= .slice (some a) xl c'/\∀j v,xs'[j]? = some v->w.cell? (a.add j)=some v):=by
 unfold pz at h;split at h
 . rename_i xb n xc;obtain⟨l,hl,h1⟩:=aM h;cases h1;obtain⟨xs',h2,h3,h4⟩:=tC hH hv hl;refine⟨xs',h2,h3,?_⟩;rcases h4 with⟨_,h4,h5⟩ | h4
   . exact .inl ⟨h4,_,h5⟩
   . exact .inr h4
 . obtain⟨s',es,rfl,h1⟩:=jc h;obtain⟨h2,h3⟩:=aY h1;have h2:=beq_eq h2;subst h2;cases h3;clear h h1;rcases hv.iF with⟨rfl,hy | ⟨a,c',hy⟩⟩ | ⟨k,o',c',e,c,h3,h4,h5,h6,h7,h8,hy⟩
   . exact⟨[],.nil,by simp,.inl ⟨rfl,_,hy⟩⟩
   . exact⟨[],.nil,by simp,.inr ⟨_,c',hy,λj v hj=>by simp at hj⟩⟩
   . obtain⟨el,fz,hrow⟩:=hH.km k e c h3 h4;have hlen:=tD h5
     by_cases hne:es=[]
     . subst hne;exact⟨[],.nil,by simp,.inr ⟨_,c',hy,λj v hj=>by simp at hj⟩⟩
     . have h6:=h6 hne;refine⟨(c.toList.drop o').take (es.length*s'),⟨?_,λm a b ha hb=> ?_⟩,?_,.inr ⟨_,c',hy,g8 hrow⟩⟩
       . rw[hlen];simp only[List.length_take,List.length_drop,Array.length_toList];omega
       . obtain⟨i,j,x,rfl,hi,hj⟩:=yI h5 m a ha;rw[List.getElem?_take]at hb;split at hb
         . rw[List.getElem?_drop,Array.getElem?_toList]at hb;exact h8 i j x a b hi hj (by rw[Nat.add_assoc];exact hb)
         . cases hb
       . simp only[List.length_take,List.length_drop,Array.length_toList];omega
theorem yJ {e:TypeId}{s aZ:Nat}(h:bV P e s aZ=true)(hs:bq P e=some s):
 ∃i z',P.info? e=some i/\i.zero=some z'/\i.size=s/\z'.cells.size=s/\0<s/\aZ<=1048576/\i.bytes<=65536:=by
 unfold bV at h;split at h
 . rename_i i z hi hz;simp only[Bool.and_eq_true]at h;obtain⟨i',z',hi',hz',hl,_⟩:=gr hz;rw[hi]at hi';cases hi';have h1:=beq_eq h.1.1.1;refine⟨i,z',hi,hz',?_,?_,eN h.1.1.2,c_ h.1.2,c_ h.2⟩
   . unfold bq at hs;rw[hi]at hs;cases hs;rfl
   . rw[<- h1,<- hl];simp
 . cases h
theorem AE {d:TypeDesc}(h:∀k,d ≠ .int k):(match d with | .int _=>true | _=>false)=false:=by
 cases d<;>first | rfl | exact absurd rfl (h _)
theorem lV (t u ty e:TypeId)(i:TypeInfo){d:TypeDesc}(ht:P.underlying t=some (.slice e))(hud:P.underlying u=some d)(hd:∀k,d ≠ .int k)(hi:P.info? e=some i)(b:Addr)(sLen sCap:Nat){x:Value}{n:Nat}{xs:List Value}
 (hn:(Builtin.lenOf x).run P w= .ok n w) (hf:(Builtin.firstCells i.size n x).run P w= .ok xs.toArray w) (hle:sLen+n<=sCap) {w':World}
 (hst:(storeCells (b.add (sLen*i.size)) xs).run P w= .ok () w'):
 (Builtin.append_ #[t,u] ty #[.slice (some b) sLen sCap,x]).run P w= .ok (.slice (some b) (sLen+n) sCap) w':=by
 have hm:=AE hd;simp[Builtin.append_,run_underlying ht,run_underlying hud,hm,sizeOf,typeInfo,hi,hn,hle,hf,hst]
theorem pA (t u ty e:TypeId)(i:TypeInfo){d:TypeDesc}(ht:P.underlying t=some (.slice e))(hud:P.underlying u=some d)(hd:∀k,d ≠ .int k)(hi:P.info? e=some i){x:Value}{xs:List Value}
 (hn:(Builtin.lenOf x).run P w= .ok 0 w) (hf:(Builtin.firstCells i.size 0 x).run P w= .ok xs.toArray w):
 (Builtin.append_ #[t,u] ty #[.slice none 0 0,x]).run P w= .ok (.slice none 0 0) w:=by
 have hm:=AE hd;simp[Builtin.append_,run_underlying ht,run_underlying hud,hm,sizeOf,typeInfo,hi,hn,hf]
theorem j8 (t u ty e:TypeId)(i:TypeInfo)(z:Value){d:TypeDesc}(ht:P.underlying t=some (.slice e))(hud:P.underlying u=some d)(hd:∀k,d ≠ .int k)(hi:P.info? e=some i)(hz:i.zero=some z)
 (base:Option Addr) (sLen sCap:Nat) (olds:List Value) (holds:(Builtin.firstCells i.size sLen (.slice base sLen sCap)).run P w.drew= .ok olds.toArray w.drew) {x:Value} (n:Nat) (news:List Value)
 (hn:(Builtin.lenOf x).run P w= .ok n w) (hf:(Builtin.firstCells i.size n x).run P w.drew= .ok news.toArray w.drew)
 (hg:sCap<sLen+n) (h63:((sLen+n:Nat):Int)<=9223372036854775807) (hfit:Builtin.nextslicecap (sLen+n) sCap*i.bytes<=281474976710656):
 (Builtin.append_ #[t,u] ty #[.slice base sLen sCap,x]).run P w=
  .ok (.slice (some ⟨w.heap.size,0,none⟩) (sLen+n) (grownCap w (sLen+n) sCap e))
   (w.drew.alloc (.cells ((olds++news).toArray++Builtin.zeroCells z.cells (grownCap w (sLen+n) sCap e-(sLen+n))) e)):=by
 have hm:=AE hd;have hn':¬(sLen+n<=sCap):=by omega
 have h63':¬(9223372036854775807<((sLen:Int)+(n:Int))):=by omega
 have h48':¬(281474976710656<Builtin.nextslicecap (sLen+n) sCap*i.bytes):=by omega
 simp[Builtin.append_,run_underlying ht,run_underlying hud,hm,sizeOf,typeInfo,zeroValue,hi,hz,hn,hn',h63',h48',Question.forced,hf,holds,newRow,grownCap];congr 2;apply Array.ext';simp[List.append_assoc]
theorem iH {H:T OB}{nx:Nat}{e:TypeId}{m:Nat}{l:List Value}:iD H nx e m l= .val (.slice (some ⟨nx,0,none⟩) m fe) (set H (bits nx) (some (di l e))) (nx+1):=by
 unfold iD;rw[eF,bm]
theorem gL {c:Call}(hc:c.callee= .builtin .append)(ho:o.op= .call c){r:Result Value}(h:(Builtin.append_ c.argTypes o.type (c.args.map ρ)).run P w=r):
 (execOp ρ o).run P w=r.andThen λv w'=> .ok (.value v) w':=by
 subst h;simp only[execOp,ho,resolve,hc,Sem.run_bind,Sem.run_pure,Result.andThen_ok,invoke,builtin]
theorem rD (z:Array Value)(n:Nat):(Builtin.zeroCells z n).size=n*z.size:=by simp[Builtin.zeroCells]
theorem grownCap_ge (w:World)(aZ old:Nat)(e:TypeId):aZ<=grownCap w aZ old e:=by
 unfold grownCap;simp only[Question.cut];omega
theorem B6 (cg:φ.length=nx){e:TypeId}{z':Value}{s m cap:Nat}{l l':List Value}{r:Result Next}(H₁:T OB)(hH₁:HR P W φ (hp H₁) w)(hk:fg φ φ (hp H) (hp H₁))
 (hs:bq P e=some s) (hz:z'.cells.size=s) (hl:LR φ l l') (hlen:l'.length=m*s) (hm:m<=cap)
 (hr:r= .ok (.value (.slice (some ⟨w.heap.size,0,none⟩) m cap)) (w.drew.alloc (.cells (l'.toArray++Builtin.zeroCells z'.cells (cap-m)) e))):
 iR P W φ H w r (.slice (some ⟨nx,0,none⟩) m fe) (set H₁ (bits nx) (some (di l e))) (nx+1):=by
 subst cg;refine⟨_,_,_,_,hr,.inl rfl,.slice (jf φ w.heap.size (l'.toArray++Builtin.zeroCells z'.cells (cap-m)).size s) (.inr ⟨rfl,hm,?_⟩),kD _ _ _ _,?_,je _ _ _ _,?_⟩
 . simp only[Array.size_append,List.size_toArray,rD,hz,hlen];rw[<- Nat.add_mul];rw[show m+(cap-m)=cap from by omega];omega
 . rw[bN];exact hH₁.drew.fresh _ (vh (w:=w.drew) hl e e _ (λz h=>by rw[hs]at h;cases h;rfl) hH₁.below.drew)
 . rw[bN];exact hk.trans (ia _ _ _ _ _ _)
theorem NP (hH:HR P W φ (hp H) w)(cg:φ.length=nx){c:Call}(hc:c.callee= .builtin .append)(ho:o.op= .call c){t u e:TypeId}{s sl sc xl:Nat}{base:Option Addr}{sv xv:Value}{xs xs':List Value}
 (hty:c.argTypes=#[t,u]) (hargs:c.args.map ρ=#[sv,xv]) (hsv:VR φ (.slice base sl sc) sv) (hu:P.underlying t=some (.slice e)) (hux:∃d,P.underlying u=some d/\∀k,d ≠ .int k) (hs:bq P e=some s)
 (hsm:bV P e s (sl+xl)=true) (hx1:LR φ xs xs') (hx2:xs'.length=xl*s) (hlx:∀w',(Builtin.lenOf xv).run P w'= .ok xl w') (hfx:(Builtin.firstCells s xl xv).run P w= .ok xs'.toArray w)
 (hfxd:(Builtin.firstCells s xl xv).run P w.drew= .ok xs'.toArray w.drew) (h:tv P H nx e s base sl sc xl xs= .val v H' nx'):iR P W φ H w ((execOp ρ o).run P w) v H' nx':=by
 obtain⟨i,z',hi,hz,his,hzs,h0,hneed,hby⟩:=yJ hsm hs;obtain⟨dd,hud,hdd⟩:=hux;rw[<- his]at hfx hfxd;have h48:∀old,old<sl+xl->Builtin.nextslicecap (sl+xl) old*i.bytes<=281474976710656:=λold hold=>
  growslice_fits hold (Nat.le_trans (Nat.mul_le_mul hneed hby) (by decide))
 cases base with
 | none=>
   have hsv:=hsv.aI rfl;subst hsv;obtain⟨hb,h'⟩:=dm (show(bif Nat.beq sl 0&&Nat.beq sc 0 then(bif Nat.beq xl 0 then eL.val (.slice none 0 0) H nx else iD H nx e xl xs)else .bad)= .val v H' nx' from h);simp only[Bool.and_eq_true]at hb;have hb1:=beq_eq hb.1;have hb2:=beq_eq hb.2;subst hb1 hb2;cases hx0:Nat.beq xl 0 with
   | true=>
     rw[hx0]at h';have h':eL.val (.slice none 0 0) H nx= .val v H' nx':=h';cases h';have hx0:=beq_eq hx0;subst hx0;refine⟨φ,.slice none 0 0,w,.value (.slice none 0 0),?_,.inl rfl,.flat _ rfl,φ.le_refl,hH,cg,fg.refl _ _⟩;rw[gL hc ho (r:= .ok (.slice none 0 0) w) ?_]
     . rfl
     . rw[hty,hargs];exact pA t u o.type e i hu hud hdd hi (hlx w) hfx
   | false=>
     rw[hx0]at h';have h':iD H nx e xl xs= .val v H' nx':=h';rw[iH]at h';cases h';have hx0:0<xl:=by
      rcases Nat.eq_zero_or_pos xl with q | q
      . subst q;cases hx0
      . exact q
     refine B6 cg H hH (fg.refl _ _) hs hzs hx1 hx2 (grownCap_ge w xl 0 e) ?_;rw[gL hc ho rfl,hty,hargs];have h5:=j8 (P:=P) (w:=w) t u o.type e i z' hu hud hdd hi hz none 0 0 [] rfl xl xs' (hlx w) hfxd (by omega) (by omega) (h48 0 (by omega));rw[Nat.zero_add,List.nil_append]at h5;rw[h5];rfl
 | some a0=>
   obtain⟨b,off,sp⟩:=a0;obtain⟨en,c0,hb,rfl,rfl,hcap⟩:=hsv.eY;have h:dV (H.get (bits b)) (λn tr el=>bif Nat.beq sc fe then S6 P H nx e s b off sl xl n tr xs
    else bif Nat.ble (sl+xl) sc then Fw H nx s b off sl sc xl n tr el xs else oR H nx e s off sl xl n tr xs) .bad= .val v H' nx':=h
   obtain⟨n,tr,el,hg,h⟩:=rC h;obtain⟨cr,elr,hrow,hrsz,hrn,rE⟩:=hH.cells hg hb;have grow:∀(H₁:T OB) (old:List Value),HR P W φ (hp H₁) w->fg φ φ (hp H) (hp H₁)->pE tr (sl*s) off=some old->off+sl*s<=n->c0<sl+xl->0<xl->
    iR P W φ H w ((execOp ρ o).run P w) (.slice (some ⟨nx,0,none⟩) (sl+xl) fe) (set H₁ (bits nx) (some (di (old++xs) e))) (nx+1):=by
    intro H₁ old hH₁ hk hold hle hlt hx0;obtain⟨ho1,ho2⟩:=l_ rE hold hle (by omega);have holds:=run_firstCells_some (P:=P) w.drew i.size sl ⟨en.r,off,none⟩ sl c0 _ (by rw[<- ho1.len,ho2,his]) (g8 (w:=w.drew) (s:=sl*s) hrow);refine B6 cg H₁ hH₁ hk hs hzs (ho1.append hx1) ?_ (grownCap_ge w (sl+xl) c0 e) ?_
    . rw[List.length_append,<- ho1.len,ho2,hx2,Nat.add_mul]
    . rw[gL hc ho rfl,hty,hargs,j8 (P:=P) (w:=w) t u o.type e i z' hu hud hdd hi hz (some ⟨en.r,off,none⟩) sl c0 _ holds xl xs' (hlx w) hfxd hlt (by omega) (h48 c0 hlt)];rfl
   cases hsc:Nat.beq sc fe with
   | true=>
     rw[hsc]at h;have h:S6 P H nx e s b off sl xl n tr xs= .val v H' nx':=h;have hsc:=beq_eq hsc;rcases hcap with⟨q,_⟩ | ⟨_,hcl,hcb⟩
     . exact absurd hsc q
     unfold S6 at h;obtain⟨hq,h⟩:=dm h;obtain⟨old,hold,h⟩:=cu h;rw[bl,iH]at h;cases h;simp only[Bool.and_eq_true]at hq;have hoff:=beq_eq hq.1.1.1;have hsn:=c_ hq.1.1.2;subst hoff;have hes:en.es=s:=by
      have h15:=hq.1.2;unfold tt at h15;rw[hg]at h15;have h15:aa (bq P el) (λz=>Nat.beq z s) false=true:=h15;cases hz:bq P el with
      | none=>rw[hz]at h15;cases h15
      | some z=>
        rw[hz]at h15;have h15:Nat.beq z s=true:=h15;have:=beq_eq h15;subst this;exact hH.es (show hp H b=some (.cells n tr el)from hg) hb z hz
     have hkill:HR P W φ (hp (set H (bits b) (some .dead))) w:=by rw[bN];exact hH.kill (show hp H b=some (.cells n tr el)from hg) hb
     have hkeep:fg φ φ (hp H) (hp (set H (bits b) (some .dead))):=λk hk=>⟨hk,by
      rw[bN,bg];intro q;subst q;rw[hb]at hk;cases hk⟩
     by_cases hfit:sl+xl<=c0
     . -- in place: the new block of ours over the old row
       obtain⟨ho1,ho2⟩:=l_ rE hold (by omega) (by omega);have hle1:(sl+xl)*s<=en.sz:=by
        have:(sl+xl)*s<=c0*s:=Nat.mul_le_mul_right s hfit;rw[hes]at hcb;omega
       rw[Nat.add_mul]at hle1;obtain⟨hab,_,_⟩:=hH.obj b _ en (show hp H b=some (.cells n tr el)from hg) hb;have hAl:=hkill.alias (e:=en) (ob:= .cells en.sz (eD old 0 .leaf) e) (hH.nS b en hb) (λk ob x hgk hlk hφk hr=>by
        rw[bN]at hgk
        by_cases hkb:k=b
        . subst hkb;rw[cZ]at hgk;cases hgk;cases hlk
        . rw[bg _ hkb]at hgk;exact hkb (hH.inj k b _ _ x en hφk hb hgk (show hp H b=some (.cells n tr el)from hg) hlk rfl hr))
        (by
         cases hz:en.fz with
         | none=>rfl
         | some cz=>exact absurd rfl (hH.rq b b en en cz _ hb hz hb (show hp H b=some (.cells n tr el)from hg) rfl))
        (λk x cz hx hz=>hH.rq k b x en cz _ hx hz hb (show hp H b=some (.cells n tr el)from hg) rfl) ⟨hab,⟨cr,elr,hrow,hrsz,Nat.le_refl _,λj hj v hv=>by
        rw[dF]at hv;split at hv
        . rename_i hjl;have hj2:j<sl*s:=by omega
          have h3:=(rf tr (sl*s) 0 old hold).2 j hj2;rw[Nat.zero_add]at h3;rw[Nat.sub_zero]at hv;rw[hv]at h3;exact rE j (by omega) v h3
        . rw[jb]at hv;cases hv⟩,λz hz=>by rw[hs]at hz;cases hz;exact hes⟩
       obtain⟨w',hrun,hH2⟩:=fU (φ:=φ++[some en]) (b:=φ.length) (n:=en.sz) (el:=e) (e:=en) (eO φ _) xs xs' (sl*s) 0 _ w _ hAl (cZ _ _ _) (hx1.mono (cV φ _)) hq.2 (by rw[hx1.len,hx2];omega);rw[mQ,Nat.add_zero]at hH2;have hH3:=hH2.Pw (k:=φ.length) (n':=(old++xs).length) (t':=eD (old++xs) 0 .leaf) (cZ _ _ _) (eO φ _) (by rw[List.length_append,ho2,hx1.len,hx2];omega) (λj hj=>by
        rw[dF,dF,if_pos (by omega),Nat.sub_zero];rw[List.length_append,ho2]at hj
        by_cases hjs:j<sl*s
        . rw[if_neg (by omega),List.getElem?_append_left (by omega),dF,if_pos (by omega),Nat.sub_zero]
        . rw[if_pos (by omega),List.getElem?_append_right (by omega),ho2])
       rw[mQ]at hH3;subst cg;refine⟨φ++[some en],.slice (some ⟨en.r,0,none⟩) (sl+xl) c0,w',.value (.slice (some ⟨en.r,0,none⟩) (sl+xl) c0),?_,.inl rfl,.slice (eO φ _) (.inr ⟨rfl,hfit,hcb⟩),cV φ _,?_,by simp,?_⟩
       . rw[gL hc ho (r:= .ok (.slice (some ⟨en.r,0,none⟩) (sl+xl) c0) w') ?_]
         . rfl
         . rw[hty,hargs];refine lV t u o.type e i hu hud hdd hi ⟨en.r,0,none⟩ sl c0 (hlx w) hfx hfit ?_;rw[du,his,Nat.zero_add];exact hrun
       . rw[bN];exact hH3
       . rw[bN];refine hkeep.trans (λk hk=>⟨?_,bg _ ?_ _⟩)
         . rw[List.getElem?_append_left (List.getElem?_eq_some_iff.1 hk).1];exact hk
         . have:=(List.getElem?_eq_some_iff.1 hk).1;omega
     . exact grow _ old hkill hkeep hold (by omega) (by omega) (by omega)
   | false=>
     rw[hsc]at h;have hne:sc≠fe:=λq=>by rw[q]at hsc;exact absurd (Nat.beq_refl fe) (by rw[hsc];decide)
     have hc0:c0=sc:=by
      rcases hcap with⟨_,q⟩ | ⟨q,_⟩
      . exact q
      . exact absurd q hne
     subst hc0;have h:(bif Nat.ble (sl+xl) c0 then Fw H nx s b off sl c0 xl n tr el xs else oR H nx e s off sl xl n tr xs)= .val v H' nx':=h;cases hle:Nat.ble (sl+xl) c0 with
     | true=>
       rw[hle]at h;have h:Fw H nx s b off sl c0 xl n tr el xs= .val v H' nx':=h;have hle:=c_ hle;unfold Fw at h;obtain⟨hq,h⟩:=dm h;rw[dk,bl,bm]at h;cases h;simp only[Bool.and_eq_true]at hq;have hin:=c_ hq.1;have hmul:(sl+xl)*s<=c0*s:=Nat.mul_le_mul_right s hle;rw[Nat.add_mul]at hmul;obtain⟨w',hrun,hH2⟩:=fU hb xs xs' (off+sl*s) 0 (hp H) w tr hH hg hx1 hq.2 (by rw[hx1.len,hx2];omega);refine⟨φ,.slice (some ⟨en.r,off,none⟩) (sl+xl) c0,w',.value (.slice (some ⟨en.r,off,none⟩) (sl+xl) c0),?_,.inl rfl,.slice hb (.inl ⟨hne,rfl⟩),φ.le_refl,?_,cg,?_⟩
       . rw[gL hc ho (r:= .ok (.slice (some ⟨en.r,off,none⟩) (sl+xl) c0) w') ?_]
         . rfl
         . rw[hty,hargs];refine lV t u o.type e i hu hud hdd hi ⟨en.r,off,none⟩ sl c0 (hlx w) hfx hle ?_;rw[du,his];exact hrun
       . rw[bN];exact hH2
       . intro k hk;refine⟨hk,?_⟩;rw[bN,bg];intro q;subst q;rw[hb]at hk;cases hk
     | false=>
       rw[hle]at h;have h:oR H nx e s off sl xl n tr xs= .val v H' nx':=h;have hlt:c0<sl+xl:=by
        rcases Nat.lt_or_ge c0 (sl+xl)with q | q
        . exact q
        . exact absurd (Nat.ble_eq_true_of_le q) (by rw[hle];decide)
       unfold oR at h;obtain⟨hq,h⟩:=dm h;obtain⟨old,hold,h⟩:=cu h;rw[iH]at h;cases h;simp only[Bool.and_eq_true]at hq;exact grow H old hH (fg.refl _ _) hold (c_ hq.1) hlt (eN hq.2)
theorem FL (hH:HR P W φ (hp H) w)(cg:φ.length=nx){c:Call}(hc:c.callee= .builtin .append)(ho:o.op= .call c)(hE:nT P φ tm ρ c.args.toList)
 (h:ba P H nx c.argTypes.toList (py P tm c.args.toList)= .val v H' nx'):iR P W φ H w ((execOp ρ o).run P w) v H' nx':=by
 have two:∀{a b:Value},py P tm c.args.toList=some [a,b]->∃sv xv,VR φ a sv/\VR φ b xv/\c.args.map ρ=#[sv,xv]:=by
  intro a b hevs;have hLRa:=n_ _ _ hE hevs;obtain⟨sv,m1,hm1,hsv,hrest⟩:=hLRa.inv;obtain⟨xv,m2,hm2,hxv,hrest⟩:=hrest.inv;have hm3:=hrest.lg;subst hm3;subst hm2;exact⟨sv,xv,hsv,hxv,Array.ext' (by rw[Array.toList_map];exact hm1)⟩
 have tys:∀{t u:TypeId},c.argTypes.toList=[t,u]->c.argTypes=#[t,u]:=λ{t u} q=>by
  have:c.argTypes.toList.toArray=#[t,u]:=by rw[q]
  simpa using this
 unfold ba at h;split at h
 . rename_i base sl sc b t u hevs htys;obtain⟨sv,xv,hsv,hxv,hargs⟩:=two hevs;have hxv:=hxv.aI rfl;subst hxv;obtain⟨hst,h⟩:=dm h;obtain⟨e,s,hu,hs,h⟩:=iG h;obtain⟨hsm,h⟩:=dm h;simp only[Bool.and_eq_true]at hsm;have hs1:=beq_eq hsm.2;subst hs1;have hud:∃d,P.underlying u=some d/\∀k,d ≠ .int k:=by
    unfold Gx at hst;split at hst
    . rename_i q;exact⟨_,q,λk=>by simp⟩
    . cases hst
   have hfc:∀w',(Builtin.firstCells 1 b.size (.string b)).run P w'= .ok (b.data.toList.map λx=>Value.int .u8 (.ofNat x.toNat)).toArray w':=λw'=>by
    simp[Builtin.firstCells];exact Array.ext' (by simp)
   refine NP hH cg hc ho (xv:= .string b) (xs:=b.data.toList.map λx=> .int .u8 (.ofNat x.toNat)) (tys htys) hargs hsv hu hud hs hsm.1 (LR.of_flat (λx hx=> ?_)) ?_ (λw'=>rfl) (hfc w) (hfc w.drew) h
   . obtain⟨y,_,rfl⟩:=List.mem_map.1 hx;rfl
   . simp
 . unfold mF at h;split at h
   case h_2=>cases h
   rename_i base sl sc xv0 t u hevs htys;obtain⟨sv,xv,hsv,hxv,hargs⟩:=two hevs;cases htu:Nat.beq t u with
   | false=>rw[htu]at h;cases h
   | true=>
     rw[htu]at h;have htu:=beq_eq htu;subst htu;have h:dH P t (λe s=>aa (pz H s xv0) (λp=>bif bV P e s (sl+p.1)then tv P H nx e s base sl sc p.1 p.2 else .bad) .bad) .bad= .val v H' nx':=h;obtain⟨e,s,hu,hs,h⟩:=iG h;obtain⟨⟨xl,xs⟩,hxs,h⟩:=cu h;obtain⟨hsm,h⟩:=dm h;obtain⟨xs',hx1,hx2,hx3⟩:=AD hH hxv hxs;obtain⟨hfx,hlx⟩:=lU (P:=P) hx2 hx3;have hx3':(xl=0/\∃c,xv= .slice none xl c)\/∃a c',xv= .slice (some a) xl c'/\∀j v,xs'[j]? = some v->w.drew.cell? (a.add j)=some v:=hx3;obtain⟨hfxd,_⟩:=lU (P:=P) (w:=w.drew) hx2 hx3';have hl:∀w',(Builtin.lenOf xv).run P w'= .ok xl w':=λw'=>by
      rcases hx3 with⟨_,c,rfl⟩ | ⟨a,c',rfl,_⟩<;>rfl
     exact NP hH cg hc ho (tys htys) hargs hsv hu ⟨_,hu,λk=>by simp⟩ hs hsm hx1 hx2 hl hfx hfxd h
end ops
end
section
variable {P:Program}{W w:World}{φ:cO}{H:T OB}{tm:T Value}{ρ:Operand->Value}{g:Nat->Option OB}
section ops
variable {o:Oper}{v:Value}{H':T OB}{nx nx':Nat}
theorem AF (hH:HR P W φ (hp H) w)(cg:φ.length=nx){t:TypeId}(ho:o.op= .makeMap t none)
 (h:(dt (bits nx) H (some (.map [] 0)) λH=>bO (Nat.succ nx) λn=>eL.val (.map (some nx)) H n)= .val v H' nx'):iR P W φ H w ((execOp ρ o).run P w) v H' nx':=by
 rw[bl,bm]at h;cases h;subst cg;refine⟨fresh φ w.heap.size 0 0,.map (some w.heap.size),w.alloc (.map #[] 0),.value (.map (some w.heap.size)),?_,.inl rfl,.map (jf φ _ _ _),kD _ _ _ _,?_,je _ _ _ _,?_⟩
 . simp[execOp,ho,Instr.makeMap]
 . rw[bN];exact hH.fresh _ ⟨hH.below.size,#[],Go.heap_alloc_new w _,.nil⟩
 . rw[bN];exact ia _ _ _ _ _ _
theorem lW (hH:HR P W φ (hp H) w)(cg:φ.length=nx){m m':Option Nat}{c:Nat}(hm:As φ m m'){r:Result Next}
 (hr:r= .ok (.value (.pointer (some ⟨w.heap.size,0,none⟩))) (w.alloc (.mapIter m' c #[] c))) (h:lf H nx m c= .val v H' nx'):iR P W φ H w r v H' nx':=by
 unfold lf at h;rw[bl,bm]at h;cases h;subst cg;refine⟨fresh φ w.heap.size 0 0,_,_,_,hr,.inl rfl,.ptr (jf φ _ _ _),kD _ _ _ _,?_,je _ _ _ _,?_⟩
 . rw[bN];exact hH.fresh _ ⟨hH.below.size,m',#[],Go.heap_alloc_new w _,rfl,hm⟩
 . rw[bN];exact ia _ _ _ _ _ _
theorem mT {x:Option OB}{k:List MapEntry->Nat->eL}{v:Value}{H':T OB}{nx':Nat}(h:yo x k .bad= .val v H' nx'):∃es c,x=some (.map es c)/\k es c= .val v H' nx':=by
 unfold yo at h;split at h
 . exact⟨_,_,rfl,h⟩
 . cases h
theorem uh {x:Option OB}{k:Option Nat->Nat->List Nat->Nat->eL}{v:Value}{H':T OB}{nx':Nat}(h:qY x k .bad= .val v H' nx'):
 ∃m s l c,x=some (.iter m s l c)/\k m s l c= .val v H' nx':=by
 unfold qY at h;split at h
 . exact⟨_,_,_,_,rfl,h⟩
 . cases h
theorem FM {t:TypeId}{k:TypeDesc->TypeId->eL}{v:Value}{H':T OB}{nx':Nat}(h:oQ P t k .bad= .val v H' nx'):
 ∃kt et d,P.underlying t=some (.map kt et)/\P.underlying kt=some d/\mE d=true/\k d et= .val v H' nx':=by
 unfold oQ at h;split at h
 . rename_i kt et hu;obtain⟨d,h1,h2⟩:=cu h;obtain⟨h3,h4⟩:=dm h2;exact⟨kt,et,d,hu,h1,h3,h4⟩
 . cases h
theorem GQ (hH:HR P W φ (hp H) w)(cg:φ.length=nx){t:TypeId}{x:Operand}(ho:o.op= .range t x)(hE:∀v,bM P tm x=some v->VR φ v (ρ x))
 (h:u1 P H nx t (bM P tm x)= .val v H' nx'):iR P W φ H w ((execOp ρ o).run P w) v H' nx':=by
 unfold u1 at h;obtain⟨ht,h⟩:=dm h;unfold Gv at ht;split at ht
 . rename_i kt et hu;split at h
   . rename_i hx;have hx':=(hE _ hx).aI rfl;refine lW (m':=none) hH cg (show As φ none none from trivial) ?_ h;simp[execOp,ho,hx',Instr.range,bB hu]
   . rename_i b hx;obtain⟨e,hb,hx'⟩:=(hE _ hx).mK;obtain⟨es,c,hg,h⟩:=mT h;obtain⟨_,es',hr,hml⟩:=hH.obj b _ e (show hp H b=some (.map es c)from hg) hb;refine lW (m':=some e.r) hH cg (show As φ (some b) (some e.r)from⟨e,hb,rfl⟩) ?_ h;simp[execOp,ho,hx',Instr.range,bB hu,MapKept.run_getObj_map hr]
   . cases h
 . cases ht
theorem ma {w:World}{r:Nat}{o o':Obj}(hr:w.heap[r]? = some o)(hn:∀c e f,o ≠ .cells c e f):(setObj r o').run P w= .ok () { w with heap:=w.heap.setIfInBounds r o' }:=by
 unfold Go.setObj;cases o with
 | cells c e f=>exact absurd rfl (hn _ _ _)
 | _=>simp only[Sem.run,hr]
theorem ec {w:World}{r:Nat}{o:Obj}(hr:w.heap[r]? = some o)(hn:∀c e f,o ≠ .cells c e f):(getObj r).run P w= .ok o w:=by
 unfold getObj;cases o with
 | cells c e f=>exact absurd rfl (hn _ _ _)
 | _=>simp only[Sem.run,hr]
theorem HR.setObj (hH:HR P W φ g w){b:Nat}{ob0 ob':OB}{e:gR}(hg:g b=some ob0)(hl:live ob0=true)(hb:φ[b]? = some (some e))(o':Obj)
 (hob:yD P W φ ob' e { w with heap:=w.heap.setIfInBounds e.r o' }):HR P W φ (nZ g b (some ob')) { w with heap:=w.heap.setIfInBounds e.r o' }:=by
 have hab:=yD.Tr hl (hH.obj b ob0 e hg hb);refine hH.put hg hl hb ?_ (by simp) (λr hr=>Array.getElem?_setIfInBounds_ne (λq=>hr q.symm)) hob;exact hH.below.trans ⟨rfl,rfl,rfl,by simp,λk hk=>Array.getElem?_setIfInBounds_ne (by omega)⟩
theorem heap_set {w:World}{r:Nat}{o o':Obj}(hr:w.heap[r]? = some o):({ w with heap:=w.heap.setIfInBounds r o' }:World).heap[r]? = some o':=
 Array.getElem?_setIfInBounds_self_of_lt (Array.getElem?_eq_some_iff.1 hr).1
theorem yK {b:Nat}{e:gR}(hb:φ[b]? = some (some e))(x:Option OB):fg φ φ g (nZ g b x):=λk hk=>⟨hk,bg g (λq=>by subst q;rw[hb]at hk;cases hk) x⟩
theorem oS.length {l l':List MapEntry}(h:oS φ l l'):l'.length=l.length:=by
 induction h with
 | nil=>rfl
 | cons _ _ ih=>simp[ih]
theorem oS.append {a a' b b':List MapEntry}(h:oS φ a a')(h':oS φ b b'):oS φ (a++b) (a'++b'):=by
 induction h with
 | nil=>exact h'
 | cons h _ ih=>exact .cons h ih
theorem oS.modify {k k' v v':Value}(hk:VR φ k k')(hv:VR φ v v'){l l':List MapEntry}(h:oS φ l l'):∀i,oS φ (l.modify i λe=>{ e with key:=k,val:=v }) (l'.modify i λe=>{ e with key:=k',val:=v' }):=by
 induction h with
 | nil=>intro i;cases i<;>exact .nil
 | @cons e e' l l' he hl ih=>
   intro i;cases i with
   | zero=>exact .cons ⟨hk,hv,he.born⟩ hl
   | succ i=>exact .cons he (ih i)
theorem oX {d:TypeDesc}{k:Value}:∀(l:List MapEntry) (i j:Nat) (v:Value),Instr.findNow d k l i=some (some (j,v))->∃n e,j=i+n/\l[n]? = some e/\Instr.sameNow d k e.key=some true
 | [],i,j,v,h=>by cases h
 | e::l,i,j,v,h=>by
   unfold Instr.findNow at h;cases hs:Instr.sameNow d k e.key with
   | none=>rw[hs]at h;cases h
   | some b=>
     rw[hs]at h;cases b with
     | true=>cases h;exact⟨0,e,rfl,rfl,hs⟩
     | false=>
       obtain⟨n,e',h1,h2,h3⟩:=oX l (i+1) j v h;exact⟨n+1,e',by omega,by simpa using h2,h3⟩
theorem bytes_beq {a b:ByteArray}(h:(a == b)=true):(b == a)=true:=by
 have:a=b:=by
  cases a;cases b;exact congrArg _ (eq_of_beq h)
 subst this;exact h
theorem yL {d:TypeDesc}{k a:Value}(h:Instr.sameNow d k a=some true)(n:Nat):Instr.sameBits (n+1) a k=true:=by
 unfold Instr.sameNow at h;split at h
 . split at h
   . rename_i hk;subst hk;injection h with h
     have:=beq_iff_eq.1 h;subst this;simp[Instr.sameBits]
   . cases h
 . injection h with h
   simp only[Instr.sameBits];exact bytes_beq h
 . injection h with h
   have:=beq_iff_eq.1 h;subst this;simp[Instr.sameBits]
 . cases h
theorem mU (hH:HR P W φ (hp H) w)(cg:φ.length=nx){t:TypeId}{m k x:Operand}(ho:o.op= .mapUpdate t m k x)(hE:nT P φ tm ρ [m,k,x])
 (h:iE P H nx t (bM P tm m) (bM P tm k) (bM P tm x)= .val v H' nx'):iR P W φ H w ((execOp ρ o).run P w) v H' nx':=by
 unfold iE at h;obtain⟨kt,et,d,hu,hd,hkk,h⟩:=FM h;obtain⟨b,hm,h⟩:=cu h;obtain⟨kv,hk,h⟩:=cu h;obtain⟨xv,hx,h⟩:=cu h;obtain⟨es,c,hg,h⟩:=mT h;have hm':bM P tm m=some (.map (some b)):=by
  unfold NJ at hm;split at hm
  . rename_i q;cases hm;exact q
  . cases hm
 obtain⟨e,hb,hmr⟩:=(hE m (by simp) _ hm').mK;have hkv:=hE k (by simp) kv hk;have hxv:=hE x (by simp) xv hx;have hgb:hp H b=some (.map es c):=hg;obtain⟨hab,es',hr,hml⟩:=hH.obj b _ e hgb hb;have hnc:∀c' e' f,Obj.map es' c ≠ .cells c' e' f:=λ_ _ _=>by simp
 cases hf:Instr.findNow d kv es 0 with
 | none=>rw[hf]at h;cases h
 | some r=>
   rw[hf]at h;obtain⟨r',hf',hfr⟩:=rz hkv hml 0 r hf;have hfk:=run_findKey hd hf' w;have fin:∀(nes:List MapEntry) (nes':Array MapEntry) (nc:Nat),oS φ nes nes'.toList->(execOp ρ o).run P w= .ok .skip { w with heap:=w.heap.setIfInBounds e.r (.map nes' nc) }->
    iR P W φ H w ((execOp ρ o).run P w) undef (set H (bits b) (some (.map nes nc))) nx:=λnes nes' nc hn hrun=>
    ⟨φ,undef,_,.skip,hrun,.inr ⟨rfl,rfl⟩,.flat _ rfl,φ.le_refl,by rw[bN];exact hH.setObj hgb rfl hb _ ⟨hab,nes',heap_set hr,hn⟩,cg,by rw[bN];exact yK hb _⟩
   cases hfr with
   | @some i u u' hu'=>
     have h:(dt (bits b) H (some (.map (es.modify i λe=>{ e with key:=kv,val:=xv }) c)) λH=>eL.val undef H nx)= .val v H' nx':=h;rw[bl]at h;cases h;refine fin _ (es'.modify i λe=>{ e with key:=ρ k,val:=ρ x }) c (by rw[Array.toList_modify];exact hml.modify hkv hxv i) ?_;obtain⟨n,en,hn1,hn2,hn3⟩:=oX _ _ _ _ hf';rw[Nat.zero_add]at hn1;subst hn1;have hkey:(Instr.keyThatStays (((es'[i]?).map (·.key)).getD (ρ k)) (ρ k)).run P w= .ok (ρ k) w:=by
      have h1:es'[i]? = some en:=by simpa using hn2
      rw[h1];simp only[Option.map_some,Option.getD_some,Instr.keyThatStays,yL hn3 9999,if_true];rfl
     simp only[execOp,ho,hmr,Instr.mapUpdate,Sem.run_bind,bB hu,Result.andThen_ok,ec hr hnc,run_checkKey hd hkk,hfk,hkey,ma hr hnc];rfl
   | none=>
     have h:(bO (Nat.succ c) λc'=>dt (bits b) H (some (.map (es++[⟨kv,xv,c⟩]) c')) λH=>eL.val undef H nx)= .val v H' nx':=h;rw[bm,bl]at h;cases h;refine fin _ (es'.push { key:=ρ k,val:=ρ x,born:=c }) (c+1) (by rw[Array.toList_push];exact hml.append (.cons ⟨hkv,hxv,rfl⟩ .nil)) ?_;simp only[execOp,ho,hmr,Instr.mapUpdate,Sem.run_bind,bB hu,Result.andThen_ok,ec hr hnc,run_checkKey hd hkk,hfk,ma hr hnc];rfl
theorem oS.filter {l l':List MapEntry}(h:oS φ l l')(p:Nat->Bool):oS φ (l.filter λe=>p e.born) (l'.filter λe=>p e.born):=by
 induction h with
 | nil=>exact .nil
 | @cons e e' l l' he hl ih=>
   simp only[List.filter_cons,he.born];split
   . exact .cons he ih
   . exact ih
theorem oS.all {l l':List MapEntry}(h:oS φ l l')(p:Nat->Bool):(l'.all λe=>p e.born)=(l.all λe=>p e.born):=by
 induction h with
 | nil=>rfl
 | cons he _ ih=>simp only[List.all_cons,he.born,ih]
theorem KW (hH:HR P W φ (hp H) w)(cg:φ.length=nx){x:Operand}{isS:Bool}(ho:o.op= .next x isS)(hE:∀v,bM P tm x=some v->VR φ v (ρ x))
 (h:Al H nx (bM P tm x) isS= .val v H' nx'):iR P W φ H w ((execOp ρ o).run P w) v H' nx':=by
 unfold Al at h;cases isS with
 | true=>cases h
 | false=>
   have h:yi (bM P tm x) (λr off=>bif Nat.beq off 0 then qY (H.get (bits r)) (λm since seen last=>match m with
    | none=>eL.val (.tuple #[.bool false]) H nx
    | some m=>tT H nx r m since last seen) .bad else .bad) .bad= .val v H' nx':=h
   obtain⟨r,off,hx,h⟩:=rB h;obtain⟨h0,h⟩:=dm h;have h0:=beq_eq h0;subst h0;obtain⟨m,since,seen,last,hg,h⟩:=uh h;obtain⟨e,hb,_,hxr⟩:=(hE _ hx).eE;have hgb:hp H r=some (.iter m since seen last):=hg;obtain⟨hab,m',seen',hr,hseen,hmn⟩:=hH.obj r _ e hgb hb;have hnc:∀c' e' f,Obj.mapIter m' since seen' last ≠ .cells c' e' f:=λ_ _ _=>by simp
   have over:(execOp ρ o).run P w= .ok (.value (.tuple #[.bool false])) w->iR P W φ H w ((execOp ρ o).run P w) (.tuple #[.bool false]) H nx:=λhrun=>
    ⟨φ,_,w,_,hrun,.inl rfl,.flat _ rfl,φ.le_refl,hH,cg,fg.refl _ _⟩
   cases m with
   | none=>
     cases m' with
     | some _=>exact hmn.elim
     | none=>
       have h:eL.val (.tuple #[.bool false]) H nx= .val v H' nx':=h;cases h;refine over ?_;simp only[execOp,ho,hxr,Instr.next,Sem.run_bind,ec hr hnc,Result.andThen_ok];rfl
   | some m=>
     cases m' with
     | none=>exact hmn.elim
     | some m'=>
       obtain⟨em,hbm,rfl⟩:=hmn;have h:tT H nx r m since last seen= .val v H' nx':=h;unfold tT at h;obtain⟨es,c,hgm,h⟩:=mT h;obtain⟨_,es',hrm,hml⟩:=hH.obj m _ em (show hp H m=some (.map es c)from hgm) hbm;have hncm:∀c' e' f,Obj.map es' c ≠ .cells c' e' f:=λ_ _ _=>by simp
       cases hbad: !seen.isEmpty && !es.isEmpty&&es.all (λe=>Nat.ble last e.born)with
       | true=>rw[hbad]at h;cases h
       | false=>
         rw[hbad]at h;have h:Ak H nx r m since c seen (es.filter λe=> !seen.contains e.born)= .val v H' nx':=h;have hsn:∀b,seen'.contains b=seen.contains b:=λb=>by rw[<- hseen];simp
         have h1:seen'.isEmpty=seen.isEmpty:=by rw[<- hseen];simp
         have h2:es'.isEmpty=es.isEmpty:=by
          have hl:=hml.length;have:es'.toList.isEmpty=es.isEmpty:=by
           cases es with
           | nil=>cases hq:es'.toList with
             | nil=>rfl
             | cons a l=>rw[hq]at hl;simp at hl
           | cons a l=>cases hq:es'.toList with
             | nil=>rw[hq]at hl;simp at hl
             | cons b m=>rfl
          rw[<- this];simp
         have h3:(es'.all λe=>decide (e.born>=last))=es.all (λe=>Nat.ble last e.born):=by
          have:=hml.all (λb=>decide (b>=last));rw[<- Array.all_toList,this];congr 1;funext e;rw[Bool.eq_iff_iff];simp only[decide_eq_true_eq];exact⟨λq=>Nat.ble_eq_true_of_le q,λq=>c_ q⟩
         have hcond:(!seen'.isEmpty && !es'.isEmpty&&es'.all (λe=>decide (e.born>=last)))=false:=by rw[h1,h2,h3];exact hbad
         have hcond':¬((!seen'.isEmpty && !es'.isEmpty&&es'.all (λe=>decide (e.born>=last)))=true):=by rw[hcond];decide
         have hleft:=hml.filter (λb=> !seen.contains b);have hle:es'.filter (λe=> !seen'.contains e.born)=(es'.toList.filter λe=> !seen.contains e.born).toArray:=by
          apply Array.ext';simp only[Array.toList_filter,hsn]
         generalize hL:(es'.toList.filter λe=> !seen.contains e.born)=L' at hleft hle;generalize hLo:(es.filter λe=> !seen.contains e.born)=L at hleft h;cases hleft with
         | nil=>
           have h:eL.val (.tuple #[.bool false]) H nx= .val v H' nx':=h;cases h;refine over ?_;simp only[execOp,ho,hxr,Instr.next,Sem.run_bind,ec hr hnc,ec hrm hncm,Result.andThen_ok];rw[if_neg hcond',hle];simp[Question.forced]
         | @cons e1 e1' l l' he1 hl=>
           cases l with
           | cons _ _=>cases h
           | nil=>
             cases hl;obtain⟨hlt,h⟩:=dm (show(bif Nat.blt e1.born since then dt (bits r) H (some (.iter (some m) since (seen++[e1.born]) c)) (λH=>eL.val (.tuple #[.bool true,e1.key,e1.val]) H nx)else .bad)= .val v H' nx' from h);rw[bl]at h;cases h;have hlt:=eN hlt;have hb1:=he1.born;have hrun:(execOp ρ o).run P w= .ok (.value (.tuple #[.bool true,e1'.key,e1'.val])) { w with heap:=w.heap.setIfInBounds e.r (.mapIter (some em.r) since (seen'.push e1'.born) c) }:=by
              have c1:¬(since<=e1'.born):=by omega
              have c2:e1'.born<since:=by omega
              simp only[execOp,ho,hxr,Instr.next,Sem.run_bind,ec hr hnc,ec hrm hncm,Result.andThen_ok];rw[if_neg hcond',hle];simp[Question.forced,c1,c2,ma hr hnc]
             refine⟨φ,_,_,_,hrun,.inl rfl,(LR.cons (.flat (.bool true) rfl) (LR.cons he1.key (LR.cons he1.val LR.nil))).tuple,φ.le_refl,?_,cg,by rw[bN];exact yK hb _⟩;rw[bN];exact hH.setObj hgb rfl hb _ ⟨hab,some em.r,seen'.push e1'.born,heap_set hr,by rw[Array.toList_push,hseen,hb1],em,hbm,rfl⟩
theorem oS.find {l l':List MapEntry}(h:oS φ l l')(st:Nat){e:MapEntry}(hf:l.find? (λe=>e.born == st)=some e):∃e',l'.find? (λe=>e.born == st)=some e'/\XV φ e e':=by
 induction h with
 | nil=>cases hf
 | @cons a a' l l' ha _ ih=>
   simp only[List.find?_cons,ha.born]at hf ⊢;cases hb:a.born == st with
   | true=>rw[hb]at hf;cases hf;exact⟨a',rfl,ha⟩
   | false=>rw[hb]at hf;exact ih hf
theorem GR (hH:HR P W φ (hp H) w)(cg:φ.length=nx){x:Operand}(ho:o.op= .entry x)(hE:∀v,bM P tm x=some v->VR φ v (ρ x))
 (h:u3 H nx (bM P tm x)= .val v H' nx'):iR P W φ H w ((execOp ρ o).run P w) v H' nx':=by
 unfold u3 at h;obtain⟨r,off,hx,h⟩:=rB h;obtain⟨h0,h⟩:=dm h;have h0:=beq_eq h0;subst h0;obtain⟨m,since,seen,last,hg,h⟩:=uh h;cases m with
 | none=>cases h
 | some m=>
 rw[aT]at h;obtain⟨st,hst,h⟩:=cu h;obtain⟨es,c,hgm,h⟩:=mT h;obtain⟨hc,h9⟩:=dm h;have hc:=beq_eq hc;subst hc;obtain⟨e,hb,_,hxr⟩:=(hE _ hx).eE;obtain⟨hab,m',seen',hr,hseen,hmn⟩:=hH.obj r _ e (show hp H r=some (.iter (some m) since seen c)from hg) hb;cases m' with
 | none=>exact hmn.elim
 | some m'=>
   obtain⟨em,hbm,rfl⟩:=hmn;obtain⟨_,es',hrm,hml⟩:=hH.obj m _ em (show hp H m=some (.map es c)from hgm) hbm;have hnc:∀c' e' f,Obj.mapIter (some em.r) since seen' c ≠ .cells c' e' f:=λ_ _ _=>by simp
   have hncm:∀c' e' f,Obj.map es' c ≠ .cells c' e' f:=λ_ _ _=>by simp
   have hback:seen'.back? = some st:=by rw[<- hst,<- hseen];simp
   unfold u2 at h9;cases hf:es.find? (λe=>e.born == st)with
   | none=>simp only[hf]at h9;cases h9
   | some e1=>
     simp only[hf]at h9;cases h9;obtain⟨e1',hf',he1⟩:=hml.find st hf;have hf2:es'.find? (λe=>e.born == st)=some e1':=by simpa using hf'
     refine⟨φ,_,w,_,?_,.inl rfl,(LR.cons he1.key (LR.cons he1.val LR.nil)).tuple,φ.le_refl,hH,cg,fg.refl _ _⟩;simp[execOp,ho,hxr,Instr.entry,ec hr hnc,ec hrm hncm,hback,hf2]
theorem rF (hH:HR P W φ (hp H) w)(cg:φ.length=nx)(hE:nT P φ tm ρ o.op.operands.toList)(h:ef P H nx tm o= .val v H' nx'):
 iR P W φ H w ((execOp ρ o).run P w) v H' nx':=by
 unfold ef at h;cases ho:o.op with
 | alloc e=>simp only[ho]at h;exact GP hH cg ho h
 | box e x=>simp only[ho]at h;exact Pv hH cg ho (λv hv=>hE x (by rw[ho];simp[Op.operands]) v hv) h
 | store t a x=>simp only[ho]at h;exact yG hH cg ho (by rw[ho]at hE;exact hE) h
 | buildSlice t len ps=>simp only[ho]at h;exact tB hH cg ho hE h
 | makeSlice t l c=>simp only[ho]at h;exact vi hH cg ho (by rw[ho]at hE;exact hE) h
 | makeMap t r=>
   simp only[ho]at h;cases r with
   | none=>exact AF hH cg ho h
   | some x=>cases h
 | mapUpdate t m k x=>simp only[ho]at h;exact mU hH cg ho (by rw[ho]at hE;exact hE) h
 | insert t m k x=>
   simp only[ho]at h;have h2:=mU (o:={ o with op:= .mapUpdate t m k x }) hH cg rfl (by rw[ho]at hE;exact hE) h;have e:execOp ρ o=execOp ρ { o with op:= .mapUpdate t m k x }:=by simp only[execOp,ho]
   rw[e];exact h2
 | range t x=>simp only[ho]at h;exact GQ hH cg ho (λv hv=>hE x (by rw[ho];simp[Op.operands]) v hv) h
 | next x b=>simp only[ho]at h;exact KW hH cg ho (λv hv=>hE x (by rw[ho];simp[Op.operands]) v hv) h
 | entry x=>simp only[ho]at h;exact GR hH cg ho (λv hv=>hE x (by rw[ho];simp[Op.operands]) v hv) h
 | defer c=>
   simp only[ho]at h;unfold jC at h;split at h<;>cases h
 | panic x=>
   simp only[ho]at h;unfold Am at h;split at h<;>cases h
 | call c=>
   simp only[ho]at h;unfold gQ at h;split at h
   . unfold ym at h;split at h
     . obtain⟨l,_,h⟩:=cu h;obtain⟨_,h⟩:=dm h;cases h
     . cases h
   . rename_i hc;exact FL hH cg hc ho (λx hx v hv=>hE x (by rw[ho];simp[Op.operands,Call.operands,hc];simpa using hx) v hv) h
   . cases h
   . cases h
   . cases h
 | _=>simp only[ho]at h;cases h
theorem FO {α:Type}{x:Option α}{k:α->eL}{f:FuncId}{l:List Value}(h:aa x k .bad= .call f l):∃a,x=some a/\k a= .call f l:=by
 cases x with
 | none=>cases h
 | some a=>exact⟨a,rfl,h⟩
theorem GS {b:Bool}{x:eL}{f:FuncId}{l:List Value}(h:(bif b then x else .bad)= .call f l):b=true/\x= .call f l:=by
 cases b
 . cases h
 . exact⟨rfl,h⟩
theorem AG {f:FuncId}(h:kq P f=true):∃fn,P.funcs[f]? = some fn/\fn.body.isSome=true/\(fn.name == "runtime.NumGoroutine")=false:=by
 unfold kq at h;split at h
 . rename_i fn hfn;simp only[Bool.and_eq_true,Bool.not_eq_true']at h;exact⟨fn,hfn,h.1,h.2⟩
 . cases h
theorem mV {f:FuncId}(h:kq P f=true)(args:Array Value)(w:World):(callFunc f args).run P w= .ok (.enter f args) w:=by
 obtain⟨fn,h1,h2,h3⟩:=AG h;have h2':fn.body.isNone=false:=by cases hb:fn.body<;>simp_all
 simp only[callFunc,Sem.run_bind,run_program,Result.andThen_ok,h1];simp[h3,h2']
theorem yM {c:Call}{fv:Operand}(hE:nT P φ tm ρ (fv::c.args.toList)){f:FuncId}{l:List Value}(h:ym P (bM P tm fv) (py P tm c.args.toList)= .call f l):
 ∃a' cap',ρ fv= .func (.func f) #[] ⟨cap'⟩/\a'=c.args.toList.map ρ/\LR φ l (a'++cap')/\kq P f=true:=by
 unfold ym at h;split at h
 . rename_i g cap hf;obtain⟨vs,hvs,h⟩:=FO h;obtain⟨hok,h⟩:=GS h;cases h;obtain⟨cap',hv',hcap⟩:=(hE fv (by simp) _ hf).GG;have hargs:=n_ _ _ (λx hx=>hE x (by simp[hx])) hvs;exact⟨_,cap',hv',rfl,hargs.append hcap,hok⟩
 . cases h
def PL (e:eL):Prop:=match e with
 | .val _ _ _=>True
 | .bad=>True
 | _=>False
theorem dc {α:Type}{x:Option α}{k:α->eL}(h:∀a,PL (k a)):PL (aa x k .bad):=by
 cases x with
 | none=>trivial
 | some a=>exact h a
theorem dw {b:Bool}{x y:eL}(h:PL x)(h':PL y):PL (bif b then x else y):=by
 cases b
 . exact h'
 . exact h
theorem rG {H:T OB}{nx:Nat}{e:TypeId}{m:Nat}{l:List Value}:PL (iD H nx e m l):=by rw[iH];trivial
theorem mb {t:TypeId}{k:TypeId->Nat->eL}(h:∀e s,PL (k e s)):PL (dH P t k .bad):=by
 unfold dH;split
 . exact dc λs=>h _ s
 . trivial
theorem ui {x:Option OB}{k:Nat->T Value->TypeId->eL}(h:∀n t e,PL (k n t e)):PL (dV x k .bad):=by
 unfold dV;split
 . exact h _ _ _
 . trivial
theorem vj {x:Option Value}{k:Nat->Nat->eL}(h:∀a b,PL (k a b)):PL (yi x k .bad):=by
 unfold yi;split
 . exact h _ _
 . trivial
theorem mW {x:Option OB}{k:List MapEntry->Nat->eL}(h:∀a b,PL (k a b)):PL (yo x k .bad):=by
 unfold yo;split
 . exact h _ _
 . trivial
theorem yN {x:Option OB}{k:Option Nat->Nat->List Nat->Nat->eL}(h:∀a b c d,PL (k a b c d)):PL (qY x k .bad):=by
 unfold qY;split
 . exact h _ _ _ _
 . trivial
theorem yO {t:TypeId}{k:TypeDesc->TypeId->eL}(h:∀a b,PL (k a b)):PL (oQ P t k .bad):=by
 unfold oQ;split
 . exact dc λd=>dw (h _ _) trivial
 . trivial
theorem B7 {e:TypeId}{s sl sc xl:Nat}{base:Option Addr}{xs:List Value}:PL (tv P H nx e s base sl sc xl xs):=by
 unfold tv;split
 . exact dw (dw trivial rG) trivial
 . unfold yn;refine ui λn tr el=>dw ?_ (dw ?_ ?_)
   . unfold S6;refine dw (dc λold=> ?_) trivial;rw[bl];exact rG
   . unfold Fw;refine dw ?_ trivial;rw[dk,bl,bm]
     trivial
   . unfold oR;exact dw (dc λold=>rG) trivial
 . trivial
theorem uj {ts:List TypeId}{l:Option (List Value)}:PL (ba P H nx ts l):=by
 unfold ba;split
 . exact dw (mb λe s=>dw B7 trivial) trivial
 . unfold mF;split
   . exact dw trivial (mb λe s=>dc λp=>dw B7 trivial)
   . trivial
theorem B8 {b:Nat}{es:List MapEntry}{c:Nat}{k v:Value}{r:Option (Option (Nat×Value))}:PL (Pg H nx b es c k v r):=by
 unfold Pg;split
 . rw[bl];trivial
 . rw[bm,bl];trivial
 . trivial
theorem rH {m:Option Nat}{c:Nat}:PL (lf H nx m c):=by unfold lf;rw[bl,bm];trivial
theorem GU {r m since last:Nat}{seen:List Nat}:PL (tT H nx r m since last seen):=by
 unfold tT;refine mW λes c=>dw trivial ?_;unfold Ak;split
 . trivial
 . refine dw ?_ trivial;rw[bl];trivial
 . trivial
theorem FP {es:List MapEntry}{st:Nat}:PL (u2 H nx es st):=by
 unfold u2;split<;>trivial
theorem rI {c:Call}{f:FuncId}{l:List Value}(h:gQ P H nx tm c= .call f l):∃fv,c.callee= .value fv/\ym P (bM P tm fv) (py P tm c.args.toList)= .call f l:=by
 unfold gQ at h;split at h
 . rename_i fv hc;exact⟨fv,hc,h⟩
 . have:=uj (P:=P) (H:=H) (nx:=nx) (ts:=c.argTypes.toList) (l:=py P tm c.args.toList);rw[h]at this;exact this.elim
 . cases h
 . cases h
 . cases h
theorem GV (h1:∀c,o.op ≠ .call c)(h2:∀c,o.op ≠ .defer c)(h3:∀x,o.op ≠ .panic x):PL (ef P H nx tm o):=by
 unfold ef;cases ho:o.op with
 | call c=>exact absurd ho (h1 c)
 | defer c=>exact absurd ho (h2 c)
 | panic x=>exact absurd ho (h3 x)
 | alloc e=>
   refine dc λl=> ?_;rw[eF];trivial
 | box e x=>
   refine dc λl=> ?_;rw[eF];trivial
 | store t a x=>
   refine vj λb off=>dc λv=>ui λn tr e=>dc λs=>dw ?_ trivial;rw[dk,bl];trivial
 | buildSlice t len ps=>
   refine dc λvs=>mb λe s=>dc λz=>dw (dc λcs=> ?_) trivial;rw[eF,bm];trivial
 | makeSlice t a c=>
   show PL (gI P H nx t (bM P tm a) (bM P tm c));unfold gI;split
   . rename_i i j e _ _ _;cases i with
     | negSucc i=>exact trivial
     | ofNat i=>
     cases j with
     | negSucc j=>
       show PL (hJ ((i:Nat):Int) (λl=>hJ (Int.negSucc j) (λc=>Fv P H nx e l c) .bad) .bad);rw[eM];exact trivial
     | ofNat j=>
     show PL (hJ ((i:Nat):Int) (λl=>hJ ((j:Nat):Int) (λc=>Fv P H nx e l c) .bad) .bad);rw[eM,eM];unfold Fv;split
     . refine dw ?_ trivial;split
       . rw[bl,bm];trivial
       . refine dw ?_ trivial;rw[eF];trivial
     . trivial
   . trivial
 | makeMap t r=>
   cases r with
   | none=>
     show PL (dt (bits nx) H (some (.map [] 0)) λH=>bO (Nat.succ nx) λn=>eL.val (.map (some nx)) H n);rw[bl,bm];trivial
   | some x=>trivial
 | mapUpdate t m k x=>exact yO λd et=>dc λb=>dc λk=>dc λv=>mW λes c=>B8
 | insert t m k x=>exact yO λd et=>dc λb=>dc λk=>dc λv=>mW λes c=>B8
 | range t x=>
   refine dw ?_ trivial;split
   . exact rH
   . exact mW λes c=>rH
   . trivial
 | next x b=>
   refine dw trivial (vj λr off=>dw (yN λm s l c=> ?_) trivial);cases m with
   | none=>trivial
   | some m=>exact GU
 | entry x=>exact vj λr off=>dw (yN λm s l c=>dc λm=>dc λst=>mW λes c=>dw FP trivial) trivial
 | _=>trivial
theorem B9 {e:eL}(h:ef P H nx tm o=e)(hp:¬PL e):(∃c,o.op= .call c/\gQ P H nx tm c=e)\/(∃c,o.op= .defer c/\jC (gQ P H nx tm c)=e)\/
 (∃x,o.op= .panic x/\Am (bM P tm x)=e):=by
 by_cases h1:∃c,o.op= .call c
 . obtain⟨c,hc⟩:=h1;refine .inl ⟨c,hc,?_⟩;rw[<- h];unfold ef;simp only[hc]
 . by_cases h2:∃c,o.op= .defer c
   . obtain⟨c,hc⟩:=h2;refine .inr (.inl ⟨c,hc,?_⟩);rw[<- h];unfold ef;simp only[hc]
   . by_cases h3:∃x,o.op= .panic x
     . obtain⟨x,hx⟩:=h3;refine .inr (.inr ⟨x,hx,?_⟩);rw[<- h];unfold ef;simp only[hx]
     . have:=GV (P:=P) (H:=H) (nx:=nx) (tm:=tm) (o:=o) (λc q=>h1 ⟨c,q⟩) (λc q=>h2 ⟨c,q⟩) (λc q=>h3 ⟨c,q⟩);rw[h]at this;exact absurd this hp
theorem FQ {f:Option Value}{l:Option (List Value)}:(∃g a,ym P f l= .call g a)\/ym P f l= .bad:=by
 unfold ym;split
 . cases l with
   | none=>exact .inr rfl
   | some l=>
     rw[aT];rename_i g cap;cases kq P g with
     | true=>exact .inl ⟨_,_,rfl⟩
     | false=>exact .inr rfl
 . exact .inr rfl
theorem mc {c:Call}:(∀f l,gQ P H nx tm c ≠ .S4 f l)/\(∀v,gQ P H nx tm c ≠ .gj v)/\(gQ P H nx tm c= .S5->c.callee= .builtin .recover):=by
 unfold gQ;split
 . rcases FQ (P:=P) (f:=bM P tm _) (l:=py P tm c.args.toList)with⟨g,a,h⟩ | h
   . rw[h];exact⟨λ_ _ q=>(nomatch q),λ_ q=>(nomatch q),λq=>(nomatch q)⟩
   . rw[h];exact⟨λ_ _ q=>(nomatch q),λ_ q=>(nomatch q),λq=>(nomatch q)⟩
 . have:=uj (P:=P) (H:=H) (nx:=nx) (ts:=c.argTypes.toList) (l:=py P tm c.args.toList);refine⟨λf l q=> ?_,λv q=> ?_,λq=> ?_⟩<;>(rw[q]at this;exact this.elim)
 . rename_i hc;exact⟨λ_ _ q=>(nomatch q),λ_ q=>(nomatch q),λ_=>hc⟩
 . exact⟨λ_ _ q=>(nomatch q),λ_ q=>(nomatch q),λq=>(nomatch q)⟩
 . exact⟨λ_ _ q=>(nomatch q),λ_ q=>(nomatch q),λq=>(nomatch q)⟩
theorem B_ {f:FuncId}{l:List Value}(hE:nT P φ tm ρ o.op.operands.toList)(h:ef P H nx tm o= .call f l):
 ∃l',LR φ l l'/\kq P f=true/\∀w,(execOp ρ o).run P w= .ok (.enter f l'.toArray) w:=by
 obtain⟨c,ho,h⟩:∃c,o.op= .call c/\gQ P H nx tm c= .call f l:=by
  rcases B9 h (λq=>q)with q | ⟨c,_,q⟩ | ⟨x,_,q⟩
  . exact q
  . unfold jC at q;split at q<;>cases q
  . unfold Am at q;split at q<;>cases q
 obtain⟨fv,hc,h⟩:=rI h;have hops:o.op.operands.toList=fv::c.args.toList:=by rw[ho];simp[Op.operands,Call.operands,hc]
 rw[hops]at hE;obtain⟨a',cap',hv',rfl,hLR,hok⟩:=yM hE h;refine⟨_,hLR,hok,λw=> ?_⟩;have e1:(c.args.map ρ++⟨cap'⟩:Array Value)=(c.args.toList.map ρ++cap').toArray:=Array.ext' (by simp);simp only[execOp,ho,resolve,hc,hv',Deferred.ofValue,Sem.run_bind,Sem.run_pure,Result.andThen_ok,invoke];simp[mV hok,e1]
def Tu (P:Program)(φ:cO)(d:FuncId×List Value)(d':Deferred):Prop:=∃a' cap',d'={ target:= .fn (.func d.1) ⟨cap'⟩,args:=a' }/\LR φ d.2 (a'.toList++cap')/\kq P d.1=true
theorem Tu.mono {φ':cO}(hle:φ.le φ'){d:FuncId×List Value}{d':Deferred}(h:Tu P φ d d'):Tu P φ' d d':=by
 obtain⟨a,b,c,d,e⟩:=h;exact⟨a,b,c,d.mono hle,e⟩
theorem Px {f:FuncId}{l:List Value}(hE:nT P φ tm ρ o.op.operands.toList)(h:ef P H nx tm o= .S4 f l):∃d',Tu P φ (f,l) d'/\∀w,(execOp ρ o).run P w= .ok (.defer d') w:=by
 rcases B9 h (λq=>q)with⟨c,_,q⟩ | ⟨c,ho,q⟩ | ⟨x,_,q⟩
 . exact absurd q (mc.1 f l)
 . unfold jC at q;split at q
   . rename_i g a hq;cases q;obtain⟨fv,hc,hgo⟩:=rI hq;have hops:o.op.operands.toList=fv::c.args.toList:=by rw[ho];simp[Op.operands,Call.operands,hc]
     rw[hops]at hE;obtain⟨a',cap',hv',rfl,hLR,hok⟩:=yM hE hgo;refine⟨_,⟨c.args.map ρ,cap',rfl,by simpa using hLR,hok⟩,λw=> ?_⟩;simp[execOp,ho,resolve,hc,hv',Deferred.ofValue]
   . cases q
 . unfold Am at q;split at q<;>cases q
theorem GW {v:Value}(hE:nT P φ tm ρ o.op.operands.toList)(h:ef P H nx tm o= .gj v):∃v',VR φ v v'/\∀w,(execOp ρ o).run P w= .halt (.panic v') w:=by
 rcases B9 h (λq=>q)with⟨c,_,q⟩ | ⟨c,_,q⟩ | ⟨x,ho,q⟩
 . exact absurd q (mc.2.1 v)
 . unfold jC at q;split at q<;>cases q
 . unfold Am at q;split at q
   . rename_i t u hx;cases q;obtain⟨u',h1,h2⟩:=(hE x (by rw[ho];simp[Op.operands]) _ hx).jd;exact⟨_,.iface h2,λw=>by simp[execOp,ho,h1,Instr.panic]⟩
   . cases q
theorem Py (h:ef P H nx tm o= .S5)(w:World):(execOp ρ o).run P w= .ok .recover w:=by
 rcases B9 h (λq=>q)with⟨c,ho,q⟩ | ⟨c,_,q⟩ | ⟨x,_,q⟩
 . have hc:=mc.2.2 q;simp[execOp,ho,resolve,hc,invoke,builtin]
 . unfold jC at q;split at q<;>cases q
 . unfold Am at q;split at q<;>cases q
end ops
end
end
end Go.Ev
namespace Go.Ev
noncomputable section
set_option maxRecDepth 100000
set_option linter.unusedVariables false
set_option linter.unusedSimpArgs false
section
variable {P:Program}{H H':T OB}{tm tm':T Value}
theorem kE:∀(ps:List (Nat×Operand)),(∀p∈ps,bM P tm' p.2=bM P tm p.2)->parts P tm' ps=parts P tm ps
 | [],_=>rfl
 | p::ps,h=>by simp only[parts,h p (by simp),kE ps (λq hq=>h q (by simp[hq]))]
theorem oh:∀(l:List Operand),(∀x∈l,bM P tm' x=bM P tm x)->py P tm' l=py P tm l
 | [],_=>rfl
 | x::l,h=>by simp only[py,h x (by simp),oh l (λy hy=>h y (by simp[hy]))]
theorem me {x:Option Operand}(h:∀y∈x.toList,bM P tm' y=bM P tm y):fM P tm' x=fM P tm x:=by
 cases x with
 | none=>rfl
 | some y=>simp only[fM,h y (by simp)]
theorem GX {o:Oper}(h:∀x∈o.op.operands.toList,bM P tm' x=bM P tm x):rd P H tm' o=rd P H tm o:=by
 unfold rd;cases ho:o.op with
 | move x=>simp only[ho]at h;exact h x (by simp[Op.operands])
 | assign x=>simp only[ho]at h;exact h x (by simp[Op.operands])
 | pick c a b=>
   simp only[ho]at h;show qQ (bM P tm' c) (bM P tm' a) (bM P tm' b)=qQ (bM P tm c) (bM P tm a) (bM P tm b);rw[h c (by simp[Op.operands]),h a (by simp[Op.operands]),h b (by simp[Op.operands])]
 | load t x=>simp only[ho]at h;show ae P H t (bM P tm' x)=ae P H t (bM P tm x);rw[h x (by simp[Op.operands])]
 | nilCheck x=>simp only[ho]at h;show aJ (bM P tm' x)=aJ (bM P tm x);rw[h x (by simp[Op.operands])]
 | fieldAddr s x f=>simp only[ho]at h;show ab P s (bM P tm' x) f=ab P s (bM P tm x) f;rw[h x (by simp[Op.operands])]
 | indexAddr t x ix=>
   simp only[ho]at h;show ay P t (bM P tm' x) (bM P tm' ix)=ay P t (bM P tm x) (bM P tm ix);rw[h x (by simp[Op.operands]),h ix (by simp[Op.operands])]
 | extract x i=>simp only[ho]at h;show av (bM P tm' x) i=av (bM P tm x) i;rw[h x (by simp[Op.operands])]
 | field t x f=>simp only[ho]at h;show rdField P t (bM P tm' x) f=rdField P t (bM P tm x) f;rw[h x (by simp[Op.operands])]
 | slice t x lo hi mx=>
   have hops:o.op.operands.toList=[x]++lo.toList++hi.toList++mx.toList:=by rw[ho];cases lo<;>cases hi<;>cases mx<;>rfl
   rw[hops]at h;show bA P H t (bM P tm' x) (fM P tm' lo) (fM P tm' hi) (fM P tm' mx)=bA P H t (bM P tm x) (fM P tm lo) (fM P tm hi) (fM P tm mx);rw[h x (by simp),me (x:=lo) (λy hy=>h y (by simp[hy])),me (x:=hi) (λy hy=>h y (by simp[hy])),me (x:=mx) (λy hy=>h y (by simp[hy]))]
 | call c=>
   show qW P tm' o c=qW P tm o c;unfold qW;split
   all_goals first
    | rfl
    | (rename_i hc
       rw[oh c.args.toList (λx hx=>h x (by rw[ho];simp[Op.operands,Call.operands,hc];simpa using hx))])
 | makeFunc fn a b=>
   show qU fn a.toList (py P tm' b.toList)=qU fn a.toList (py P tm b.toList);rw[oh b.toList (λx hx=>h x (by rw[ho];simp[Op.operands];right;simpa using hx))]
 | typeAssert x xt t ok=>simp only[ho]at h;show hY P (bM P tm' x) t ok=hY P (bM P tm x) t ok;rw[h x (by simp[Op.operands])]
 | lookup t m k ok=>
   simp only[ho]at h;show fT P H t (bM P tm' m) (bM P tm' k) ok=fT P H t (bM P tm m) (bM P tm k) ok;rw[h m (by simp[Op.operands]),h k (by simp[Op.operands])]
 | convert s d x=>simp only[ho]at h;show ck P H s d (bM P tm' x)=ck P H s d (bM P tm x);rw[h x (by simp[Op.operands])]
 | index t x ix=>
   simp only[ho]at h;show aL P t (bM P tm' x) (bM P tm' ix)=aL P t (bM P tm x) (bM P tm ix);rw[h x (by simp[Op.operands]),h ix (by simp[Op.operands])]
 | binOp op t x y yt=>
   simp only[ho]at h;show ai P H op t (tu x||tu y) (bM P tm' x) (bM P tm' y)=ai P H op t (tu x||tu y) (bM P tm x) (bM P tm y);rw[h x (by simp[Op.operands]),h y (by simp[Op.operands])]
 | build t ps=>
   simp only[ho]at h;show az P t (parts P tm' ps.toList)=az P t (parts P tm ps.toList);rw[kE ps.toList (λp hp=>h p.2 (by
    show p.2∈((ps.toList.map (·.2)).toArray).toList;simp only[List.toList_toArray];exact List.mem_map.2 ⟨p,hp,rfl⟩))]
 | makeInterface t x=>simp only[ho]at h;show jB P t (bM P tm' x)=jB P t (bM P tm x);rw[h x (by simp[Op.operands])]
 | unOp op _ x=>simp only[ho]at h;show eV P op (bM P tm' x)=eV P op (bM P tm x);rw[h x (by simp[Op.operands])]
 | _=>rfl
theorem Ca {o:Oper}(h:mG o.op=false):rd P H' tm o=rd P H tm o:=by
 unfold rd;cases ho:o.op with
 | load t x=>rw[ho]at h;cases h
 | slice t x lo hi mx=>rw[ho]at h;cases h
 | lookup t m k ok=>rw[ho]at h;cases h
 | convert s d x=>rw[ho]at h;cases h
 | binOp op t x y yt=>rw[ho]at h;cases h
 | _=>rfl
theorem tE {ops:Array Oper}{o:Oper}(h:∀p,o.guard=some p->∀d,ja ops p.1=some d->tm'.get (bits d)=tm.get (bits d)):ca tm' ops o=ca tm ops o:=by
 unfold ca;split
 . rfl
 . rename_i p hp;cases hd:ja ops p.1 with
   | none=>rfl
   | some d=>
     show kr tm' d p.2=kr tm d p.2;unfold kr;rw[h p hp d hd]
theorem rJ {eq:Value->Value->Bool}(h:∀a b,eq a b=true->a=b):∀(l m:List Value),Gz eq l m=true->l=m
 | [],[],_=>rfl
 | a::l,b::m,q=>by
   simp only[Gz,Bool.and_eq_true]at q;rw[h a b q.1,rJ h l m q.2]
 | [],_::_,q=>by cases q
 | _::_,[],q=>by cases q
theorem rK:∀(n:Nat) (v w:Value),Fz n v w=true->v=w
 | 0,_,_,h=>by cases h
 | n+1,v,w,h=>by
   have ih:=rK n;unfold Fz at h;split at h
   all_goals first
    | (cases h;done)
    | rfl
    | (simp only[Bool.and_eq_true,beq_iff_eq,decide_eq_true_eq]at h;simp_all;done)
    | (simp only[Bool.and_eq_true,beq_iff_eq]at h;rw[h.1,ih _ _ h.2];done)
    | (rename_i a b;have:=rJ ih _ _ h;rw[Array.toList_inj]at this;rw[this];done)
theorem FT {v w:Value}(h:fm v w=true):v=w:=by
 unfold fm at h;simp only[Bool.or_eq_true,decide_eq_true_eq]at h;exact h.elim (rK 4 v w) id
theorem bj (v:Value):fm v v=true:=by unfold fm;simp
def rL (ops:Array Oper):List Nat->Prop
 | []=>True
 | i::l=>(∃o,ops[i]? = some o/\∀e∈o.after,Region.binds .any e=true->e.on∉i::l)/\i∉l/\rL ops l
theorem filter_lt {α:Type}(p q:α->Bool)(hpq:∀x,q x=true->p x=true):∀(l:List α) (x:α),x∈l->p x=true->q x=false->(l.filter q).length<(l.filter p).length
 | [],x,h,_,_=>by cases h
 | y::l,x,h,hp,hq=>by
   have hle:(l.filter q).length<=(l.filter p).length:=by
    clear h
    induction l with
    | nil=>simp
    | cons z l ih=>
      by_cases hqz:q z=true
      . rw[List.filter_cons_of_pos hqz,List.filter_cons_of_pos (hpq z hqz)];simp only[List.length_cons];omega
      . rw[List.filter_cons_of_neg hqz]
        by_cases hpz:p z=true
        . rw[List.filter_cons_of_pos hpz];simp only[List.length_cons];omega
        . rw[List.filter_cons_of_neg hpz];exact ih
   by_cases hyx:y=x
   . subst hyx;simp[hp,hq];omega
   . have hx:x∈l:=by
      cases h with
      | head=>exact absurd rfl hyx
      | tail _ h=>exact h
     have ih:=filter_lt p q hpq l x hx hp hq
     by_cases hqy:q y=true
     . simp[hqy,hpq y hqy];exact ih
     . by_cases hpy:p y=true
       . simp[hqy,hpy];omega
       . simp[hqy,hpy];exact ih
def Tv (ops:Array Oper)(listed:Array Bool):List Nat:=(List.range ops.size).filter λi=> !listed.getD i true
theorem Pz (ops:Array Oper)(hac:acyclic ops=true):∀(fuel t:Nat) (listed:Array Bool),listed.size=ops.size->(Tv ops listed).length<=fuel->
 rL ops (Region.linearise.go .any ops fuel t listed [])/\(∀i∈Region.linearise.go .any ops fuel t listed [],listed.getD i true=false)/\
 (∀i,i<ops.size->listed.getD i true=false->i∈Region.linearise.go .any ops fuel t listed []):=by
 intro fuel
 induction fuel with
 | zero=>
   intro t listed _ hu;refine⟨trivial,λi hi=>by simp[Region.linearise.go]at hi,λi hi hl=> ?_⟩;have:i∈Tv ops listed:=List.mem_filter.2 ⟨List.mem_range.2 hi,by simp only[hl];rfl⟩;have:=List.length_pos_of_mem this;omega
 | succ fuel ih=>
   intro t listed kB hu;simp only[Region.linearise.go];change (rL ops (match(Region.ready .any ops listed)[t % (Region.ready .any ops listed).length]? with
    | some i=>Region.linearise.go .any ops fuel (t/(Region.ready .any ops listed).length) (listed.setIfInBounds i true) [i]
    | none=>[].reverse))/\(∀i∈(match(Region.ready .any ops listed)[t % (Region.ready .any ops listed).length]? with
    | some i=>Region.linearise.go .any ops fuel (t/(Region.ready .any ops listed).length) (listed.setIfInBounds i true) [i]
    | none=>[].reverse),_)/\(∀i,_->_->i∈(match(Region.ready .any ops listed)[t % (Region.ready .any ops listed).length]? with
    | some i=>Region.linearise.go .any ops fuel (t/(Region.ready .any ops listed).length) (listed.setIfInBounds i true) [i]
    | none=>[].reverse))
   cases hi:(Region.ready .any ops listed)[t % (Region.ready .any ops listed).length]? with
   | none=>
     have hnil:Region.ready .any ops listed=[]:=by
      cases hr:Region.ready .any ops listed with
      | nil=>rfl
      | cons x xs=>
        rw[hr]at hi;have hlt:t % (x::xs).length<(x::xs).length:=Nat.mod_lt _ (by simp);rw[List.getElem?_eq_getElem hlt]at hi;cases hi
     refine⟨trivial,λi h=>by simp at h,?_⟩;have key:∀n i,i<n->i<ops.size->listed.getD i true=true:=by
      intro n
      induction n with
      | zero=>intro i h;omega
      | succ n ihn=>
        intro i h hisz;cases hl:listed.getD i true with
        | true=>rfl
        | false=>
          exfalso;have:i∈Region.ready .any ops listed:=mem_ready.2 ⟨hl,ops[i],Array.getElem?_eq_getElem hisz,λe he hb=>by
           have h1:=List.all_eq_true.1 hac i (List.mem_range.2 hisz);rw[Array.getElem?_eq_getElem hisz]at h1;have h2:=List.all_eq_true.1 h1 e (by simpa using he);simp only[hb,Bool.not_true,Bool.false_or]at h2;have h3:=eN h2;have h4:=ihn e.on (by omega) (by omega);simpa[Array.getD,show e.on<listed.size by omega]using h4⟩
          rw[hnil]at this;cases this
     intro i hisz hl;rw[key (i+1) i (by omega) hisz]at hl;cases hl
   | some i=>
     have hmem:=List.mem_of_getElem? hi;obtain⟨hl,o,ho,hdeps⟩:=mem_ready.1 hmem;have hisz:i<ops.size:=(Array.getElem?_eq_some_iff.1 ho).1;simp only[];rw[linearise_go_acc,List.reverse_singleton,List.singleton_append];have hset:∀j,j≠i->(listed.setIfInBounds i true).getD j true=listed.getD j true:=λj hj=>getD_set_ne true (Ne.symm hj);have hseti:(listed.setIfInBounds i true).getD i true=true:=by
      simp[Array.getD,show i<listed.size by omega]
     have hlt:(Tv ops (listed.setIfInBounds i true)).length<(Tv ops listed).length:=by
      refine filter_lt _ _ (λx hx=> ?_) _ i (List.mem_range.2 hisz) (by simp only[hl];rfl) (by simp only[hseti];rfl)
      by_cases hxi:x=i
      . subst hxi;rw[hseti]at hx;cases hx
      . rw[hset x hxi]at hx;exact hx
     obtain⟨h1,h2,h3⟩:=ih (t/(Region.ready .any ops listed).length) (listed.setIfInBounds i true) (by simp[kB]) (by omega);have hni:i∉Region.linearise.go .any ops fuel (t/(Region.ready .any ops listed).length) (listed.setIfInBounds i true) []:=λq=>by
      have:=h2 i q;rw[hseti]at this;cases this
     refine⟨⟨⟨o,ho,λe he hb q=> ?_⟩,hni,h1⟩,λj hj=> ?_,λj hj hlj=> ?_⟩
     . have h4:=hdeps e he hb;rcases List.mem_cons.1 q with q | q
       . rw[q]at h4;have h5:=hl;simp only[Array.getD]at h4 h5;split at h4<;>simp_all
       . have h5:=h2 e.on q
         by_cases hei:e.on=i
         . rw[hei,hseti]at h5;cases h5
         . rw[hset _ hei]at h5;simp only[Array.getD]at h4 h5;split at h4<;>simp_all
     . cases hj with
       | head=>exact hl
       | tail _ hj=>
         have h5:=h2 j hj
         by_cases hji:j=i
         . subst hji;exact hl
         . rw[hset _ hji]at h5;exact h5
     . by_cases hji:j=i
       . subst hji;simp
       . exact List.mem_cons_of_mem _ (h3 j hj (by rw[hset _ hji];exact hlj))
theorem FU (ops:Array Oper)(hac:acyclic ops=true)(t:Nat):rL ops (Region.schedule true ops t)/\∀i,i<ops.size->i∈Region.schedule true ops t:=by
 have hrep:∀i,i<ops.size->(Array.replicate ops.size false).getD i true=false:=λi hi=>by simp[Array.getD,hi]
 have h:=Pz ops hac ops.size t (Array.replicate ops.size false) (by simp) (by
  unfold Tv;exact Nat.le_trans (List.length_filter_le _ _) (by simp))
 have e:Region.schedule true ops t=Region.linearise.go .any ops ops.size t (Array.replicate ops.size false) []:=rfl;rw[e];exact⟨h.1,λi hi=>h.2.2 i hi (hrep i hi)⟩
end
end
end Go.Ev
namespace Go.Ev
open Go.RowKit (Below)
noncomputable section
set_option maxRecDepth 100000
set_option linter.unusedVariables false
set_option linter.unusedSimpArgs false
section
variable {P:Program}{W w:World}{φ:cO}{H:T OB}{tm:T Value}{tmps:Array Value}{ops:Array Oper}
structure FB where
 fn:FuncId
 kind:CallKind
 ds:List Deferred
def dD (b:FB)(tmps:Array Value)(todo:List Item):Frame:={ fn:=b.fn,tmps,todo,defers:=b.ds,mode:= .run,kind:=b.kind }
def dS (tmps:Array Value):Operand->Value:=Act.eval ⟨tmps,[]⟩
theorem yP (tmps:Array Value)(ds:List Deferred):Act.eval ⟨tmps,ds⟩=dS tmps:=by funext x;cases x<;>rfl
def jg (tmps:Array Value)(dst:Option Tmp)(v:Value):Array Value:=match dst with
 | some d=>tmps.setIfInBounds d v
 | none=>tmps
theorem GY (tmps:Array Value)(ds:List Deferred)(dst:Option Tmp)(v:Value):(Act.put ⟨tmps,ds⟩ dst v)=⟨jg tmps dst v,ds⟩:=by cases dst<;>rfl
theorem ej (tmps:Array Value)(dst:Option Tmp)(v:Value):(jg tmps dst v).size=tmps.size:=by cases dst<;>simp[jg]
section steps
variable {fn:FB}{i:Nat}{rest:List Nat}{k:List Item}{cs:List Frame}{w':World}{o:Oper}
theorem mf (ho:ops[i]? = some o)(v:Value):(dD fn tmps (.inRegion ops (i::rest)::k)).finish v=dD fn (jg tmps o.dst v) (.inRegion ops rest::k):=by
 have:=Frame.finish_at (dD fn #[] []) ⟨tmps,fn.ds⟩ ops i rest k v;rw[ho]at this;rw[show((some o:Option Oper).bind (·.dst))=o.dst from rfl,GY]at this;exact this
theorem AH (ho:ops[i]? = some o)(hw:Region.wanted o (yielded ops tmps)=true):
 stepG P true { frame:=dD fn tmps (.inRegion ops (i::rest)::k),callers:=cs,status:= .running,dying:=none } w=
  stepG.apply P true (dD fn tmps (.inRegion ops (i::rest)::k)) cs none (execOp (dS tmps) o) w:=by
 have:=stepG_op (P:=P) (b:=dD fn #[] []) (a:=⟨tmps,fn.ds⟩) (cs:=cs) (w:=w) (k:=k) (rest:=rest) ho hw;rw[yP]at this;exact this
theorem eP (ho:ops[i]? = some o)(hw:Region.wanted o (yielded ops tmps)=true){v:Value}(hr:(execOp (dS tmps) o).run P w= .ok (.value v) w'):
 step P (lone (dD fn tmps (.inRegion ops (i::rest)::k)) cs w)= .next (lone (dD fn (jg tmps o.dst v) (.inRegion ops rest::k)) cs w'):=
 step_lone_go (by rw[AH ho hw,<- mf ho];simp[stepG.apply,hr])
theorem rM (ho:ops[i]? = some o)(hw:Region.wanted o (yielded ops tmps)=true)(hr:(execOp (dS tmps) o).run P w= .ok .skip w'):
 step P (lone (dD fn tmps (.inRegion ops (i::rest)::k)) cs w)= .next (lone (dD fn (jg tmps o.dst undef) (.inRegion ops rest::k)) cs w'):=
 step_lone_go (by rw[AH ho hw,<- mf ho];simp[stepG.apply,hr])
theorem jK (ho:ops[i]? = some o)(hw:Region.wanted o (yielded ops tmps)=true){f:FuncId}{args:Array Value}(hr:(execOp (dS tmps) o).run P w= .ok (.enter f args) w'):
 step P (lone (dD fn tmps (.inRegion ops (i::rest)::k)) cs w)=
  .next (lone (Frame.enter P f args .normal) (dD fn tmps (.inRegion ops (i::rest)::k)::cs) w'):=
 step_lone_go (by rw[AH ho hw];simp[stepG.apply,hr,dD])
theorem GZ (ho:ops[i]? = some o)(hw:Region.wanted o (yielded ops tmps)=true){d:Deferred}(hr:(execOp (dS tmps) o).run P w= .ok (.defer d) w'):
 step P (lone (dD fn tmps (.inRegion ops (i::rest)::k)) cs w)= .next (lone (dD ⟨fn.fn,fn.kind,d::fn.ds⟩ (jg tmps o.dst undef) (.inRegion ops rest::k)) cs w'):=
 step_lone_go (by
  rw[AH ho hw,<- mf (fn:=⟨fn.fn,fn.kind,d::fn.ds⟩) ho];simp only[stepG.apply,Sem.runT_eq,hr,GStep.bare_after];rfl)
theorem yQ (ho:ops[i]? = some o)(hw:Region.wanted o (yielded ops tmps)=true){v:Value}(hr:(execOp (dS tmps) o).run P w= .halt (.panic v) w'):
 step P (lone (dD fn tmps (.inRegion ops (i::rest)::k)) cs w)= .next (lone { dD fn tmps (.inRegion ops (i::rest)::k)with mode:= .panicking [{ v,recovered:=false }] } cs w'):=
 step_lone_go (by
  rw[AH ho hw];simp only[stepG.apply,Sem.runT_eq,hr,GStep.bare_after];rfl)
theorem tF (ho:ops[i]? = some o)(hw:Region.wanted o (yielded ops tmps)=true)(hr:(execOp (dS tmps) o).run P w= .ok .recover w')
 (ht:tryRecover (dD fn tmps (.inRegion ops (i::rest)::k)) cs=none):
 step P (lone (dD fn tmps (.inRegion ops (i::rest)::k)) cs w)= .next (lone (dD fn (jg tmps o.dst .nilIface) (.inRegion ops rest::k)) cs w'):=
 step_lone_go (by
  rw[AH ho hw,<- mf ho];have ht':tryRecover { fn:=fn.fn,tmps,todo:= .inRegion ops (i::rest)::k,defers:=fn.ds,mode:= .run,kind:=fn.kind } cs=none:=ht;simp[stepG.apply,hr,dD,ht'])
theorem tG (ho:ops[i]? = some o)(hw:Region.wanted o (yielded ops tmps)=true)(hr:(execOp (dS tmps) o).run P w= .ok .recover w'){v:Value}{cs':List Frame}
 (ht:tryRecover (dD fn tmps (.inRegion ops (i::rest)::k)) cs=some (v,cs')):
 step P (lone (dD fn tmps (.inRegion ops (i::rest)::k)) cs w)= .next (lone (dD fn (jg tmps o.dst v) (.inRegion ops rest::k)) cs' w'):=
 step_lone_go (by
  rw[AH ho hw,<- mf ho];have ht':tryRecover { fn:=fn.fn,tmps,todo:= .inRegion ops (i::rest)::k,defers:=fn.ds,mode:= .run,kind:=fn.kind } cs=some (v,cs'):=ht;simp[stepG.apply,hr,dD,ht'])
theorem rN (ho:ops[i]? = some o)(hw:Region.wanted o (yielded ops tmps)=false):
 step P (lone (dD fn tmps (.inRegion ops (i::rest)::k)) cs w)= .next (lone (dD fn (jg tmps o.dst undef) (.inRegion ops rest::k)) cs w):=by
 have:=step_op_skip (P:=P) (b:=dD fn #[] []) (a:=⟨tmps,fn.ds⟩) (k:=k) (cs:=cs) (w:=w) (ops:=ops) (i:=i) (rest:=rest) (by simp[ho,hw]);rw[ho,show((some o:Option Oper).bind (·.dst))=o.dst from rfl,GY]at this;exact this
end steps
def yR (φ:cO)(M:Nat->Prop)(tm:T Value)(tmps:Array Value):Prop:=∀t v,tm.get (bits t)=some v->M t\/∃v',tmps[t]? = some v'/\VR φ v v'
theorem yR.mono {ψ:cO}{M:Nat->Prop}(hle:φ.le ψ)(h:yR φ M tm tmps):yR ψ M tm tmps:=λt v q=>(h t v q).imp id λ⟨v',a,b⟩=>⟨v',a,b.mono hle⟩
theorem vk {M:Nat->Prop}(hG:∀g,g<P.globals.size->∃e:gR,φ[g]? = some (some e)/\e.r=g)(h:yR φ M tm tmps){l:List Operand}(hl:∀t,Operand.tmp t∈l->¬M t):nT P φ tm (dS tmps) l:=by
 intro x hx v hv;cases x with
 | tmp t=>
   rcases h t v hv with q | ⟨v',h1,h2⟩
   . exact absurd q (hl t hx)
   . have:dS tmps (.tmp t)=v':=by
      simp only[dS,Act.eval,Array.getD_eq_getD_getElem?,h1,Option.getD_some]
     rw[this];exact h2
 | const c=>
   have hv:(bif flat c then some c else none)=some v:=hv;obtain⟨h1,h2⟩:=aY hv;cases h2;exact .flat _ h1
 | global g=>
   obtain⟨h1,h2⟩:=aY (show(bif Nat.blt g P.globals.size then some (Value.pointer (some ⟨g,0,none⟩))else none)=some v from hv);cases h2;obtain⟨e,h3,h4⟩:=hG g (eN h1);have:dS tmps (.global g)= .pointer (some ⟨e.r,0,none⟩):=by rw[h4];rfl
   rw[this];exact .ptr h3
 | func f=>cases hv;exact .flat _ rfl
theorem oi {M:Nat->Prop}(h:yR φ M tm tmps){o:Oper}(hl:∀p,o.guard=some p->∀d,ja ops p.1=some d->¬M d){b:Bool}
 (hw:ca tm ops o=some b):Region.wanted o (yielded ops tmps)=b:=by
 unfold ca at hw;unfold Region.wanted;split at hw
 . rename_i hg;rw[hg];cases hw;rfl
 . rename_i p hg;obtain⟨j,want⟩:=p;rw[hg];obtain⟨d,hd,hy⟩:=aM hw;have hM:=hl (j,want) hg d hd;have hd':(ops[j]?).bind (·.dst)=some d:=by
    unfold ja at hd;cases hj:ops[j]? with
    | none=>rw[hj]at hd;cases hd
    | some q=>rw[hj]at hd;exact hd
   show(yielded ops tmps j == some want)=b;unfold kr at hy;split at hy
   . rename_i x hx;cases hy;rcases h d _ hx with q | ⟨v',h1,h2⟩
     . exact absurd q hM
     . have:=h2.aI rfl;subst this;have e:yielded ops tmps j=some x:=by
        unfold yielded;rw[hd'];simp only[Option.bind_some,h1]
       rw[e];cases x<;>cases want<;>rfl
   . rename_i c hx;cases hy;rcases h d _ hx with q | ⟨v',h1,h2⟩
     . exact absurd q hM
     . obtain⟨c',rfl,_⟩:=h2.ua;have e:yielded ops tmps j=none:=by
        unfold yielded;rw[hd'];simp only[Option.bind_some,h1]
       rw[e];rfl
   . cases hy
def cL (tm:T Value)(dst:Option Tmp)(v:Value):T Value:=match dst with
 | some d=>set tm (bits d) (some v)
 | none=>tm
theorem fG (tm:T Value)(dst:Option Tmp)(v:Value)(t:Nat):(cL tm dst v).get (bits t)=if dst=some t then some v else tm.get (bits t):=by
 cases dst with
 | none=>rfl
 | some d=>
   show(set tm (bits d) (some v)).get (bits t)=_;rw[get_at]
   by_cases h:t=d
   . subst h;simp
   . rw[if_neg h,if_neg (by simp;exact λq=>h q.symm)]
theorem om (tm:T Value)(dst:Option Tmp)(v:Value)(x:Operand)(h:∀d,dst=some d->x ≠ .tmp d):bM P (cL tm dst v) x=bM P tm x:=by
 cases x with
 | tmp t=>
   show(cL tm dst v).get (bits t)=tm.get (bits t);rw[fG,if_neg (λq=>h t q rfl)]
 | _=>rfl
theorem yS {tmps:Array Value}{dst:Option Tmp}{v:Value}{t:Nat}(h:∀d,dst=some d->d<tmps.size):
 (jg tmps dst v)[t]? = if dst=some t then some v else tmps[t]? := by
 cases dst with
 | none=>rfl
 | some d=>
   show(tmps.setIfInBounds d v)[t]? = _
   by_cases ht:d=t
   . subst ht;rw[Array.getElem?_setIfInBounds_self_of_lt (h d rfl)];simp
   . rw[Array.getElem?_setIfInBounds_ne ht,if_neg (by simpa using ht)]
theorem yR.put {M M':Nat->Prop}(h:yR φ M tm tmps){dst:Option Tmp}{v v':Value}(hd:∀d,dst=some d->d<tmps.size)(hv:VR φ v v')(hM:∀t,M t->dst≠some t->M' t):
 yR φ M' (cL tm dst v) (jg tmps dst v'):=by
 intro t u hu;rw[fG]at hu;rw[yS hd]
 by_cases ht:dst=some t
 . rw[if_pos ht]at hu ⊢;cases hu;exact .inr ⟨v',rfl,hv⟩
 . rw[if_neg ht]at hu ⊢;exact(h t u hu).imp (λq=>hM t q ht) id
def Tw (P:Program)(tm:T Value)(o:Op)(e:TypeId)(l:List Value)(mk:Nat->Value):Prop:=
 (o= .alloc e/\bX P e=some l/\mk=j6)\/
 (∃(t:TypeId) (len:Nat) (ps:Array (Nat×Operand)) (vs:List (Nat×Value)) (s:Nat) (z:List Value) (cells:Array Value),o= .buildSlice t len ps/\parts P tm ps.toList=some vs/\P.underlying t=some (.slice e)/\bq P e=some s/\bX P e=some z/\
  (Nat.ble (len*s) 16777216&&Nat.blt 0 (len*s)&&Nat.blt 0 z.length)=true/\Instr.fill (λi=>some (i*s,s)) (bI z (len*s)) vs=some cells/\l=cells.toList/\mk=λnx=> .slice (some ⟨nx,0,none⟩) len len)
theorem Tx {o:Oper}{nx:Nat}{H':T OB}(hal:qX o.op=true){v:Value}{nx':Nat}(h:ef P H nx tm o= .val v H' nx'):∃e l mk,Tw P tm o.op e l mk/\v=mk nx/\H'=set H (bits nx) (some (di l e))/\nx'=nx+1:=by
 unfold ef at h;split at h
 . rename_i e he;unfold au at h;obtain⟨l,hz,h⟩:=cu h;rw[eF]at h;cases h;exact⟨e,l,j6,.inl ⟨he,hz,rfl⟩,rfl,rfl,rfl⟩
 . rename_i he;rw[he]at hal;cases hal
 . rename_i he;rw[he]at hal;cases hal
 . rename_i t len ps he;unfold aq at h;obtain⟨vs,hvs,h⟩:=cu h;obtain⟨e,s,hu,hs,h⟩:=iG h;obtain⟨z,hz,h⟩:=cu h;obtain⟨hc,h⟩:=dm h;obtain⟨cells,hf,h⟩:=cu h;rw[eF,bm]at h;cases h;exact⟨e,_,_,.inr ⟨t,len,ps,vs,s,z,cells,he,hvs,hu,hs,hz,hc,hf,rfl,rfl⟩,rfl,rfl,rfl⟩
 all_goals first
  | (rename_i he;rw[he]at hal;cases hal)
  | cases h
theorem PB {o:Oper}{ρ:Operand->Value}{e:TypeId}{l:List Value}{mk:Nat->Value}(hE:nT P φ tm ρ o.op.operands.toList)(h:Tw P tm o.op e l mk):
 ∃(l':List Value) (mk':Addr->Value),LR φ l l'/\(execOp ρ o).run P w= .ok (.value (mk' ⟨w.heap.size,0,none⟩)) (w.alloc (.cells l'.toArray e))/\∀(ψ:cO) (k:Nat) (en:gR),ψ[k]? = some (some en)->VR ψ (mk k) (mk' ⟨en.r,0,none⟩):=by
 rcases h with⟨ho,hz,rfl⟩ | ⟨t,len,ps,vs,s,z,cells,ho,hvs,hu,hs,hz,hc,hf,rfl,rfl⟩
 . obtain⟨i,z,hi',hz',hl,hfl⟩:=gr hz;refine⟨l,λa=> .pointer (some a),LR.of_flat hfl,?_,fun ψ k en hk=> .ptr hk⟩;have hrun:(execOp ρ o).run P w= .ok (.value (.pointer (some ⟨w.heap.size,0,none⟩))) (w.alloc (.cells z.cells e)):=by
    simp[execOp,ho,Instr.alloc,zeroValue,typeInfo,hi',hz',newVar,newRow]
   rw[hrun,<- hl]
 . simp only[Bool.and_eq_true]at hc;have h1:=c_ hc.1.1;have h2:=eN hc.1.2;obtain⟨i,z',hi,hz',hl,hfl⟩:=gr hz;have hp:PR φ vs (ps.toList.map λp=>(p.1,ρ p.2)):=mO ps.toList vs (λp hp=>hE p.2 (by
    rw[ho];show p.2∈((ps.toList.map (·.2)).toArray).toList;exact List.mem_map.2 ⟨p,hp,rfl⟩)) hvs
   obtain⟨cells',hf',hLR⟩:=pH (λi=>some (i*s,s)) hp _ (bI z (len*s)) cells (LR.of_flat (mR hfl _)) hf;refine⟨cells'.toList,λa=> .slice (some a) len len,hLR,?_,fun ψ k en hk=> .slice hk (.inl ⟨?_,rfl⟩)⟩
   . have hzc:z.toArray=z'.cells:=by rw[<- hl]
     have hf'':Instr.fill (λi=>some (i*s,s)) (Array.map (λx=>z'.cells[x%z'.cells.size]!) (Array.range (len*s))) (ps.toList.map λp=>(p.1,ρ p.2))=some cells':=by
      rw[<- hzc];exact hf'
     have e24:(2:Nat)^24=16777216:=by decide
     have hne:¬(len*s>2^24):=by rw[e24];omega
     have hne0:¬(len*s=0):=by omega
     simp only[execOp,ho,Instr.buildSlice,Sem.run_bind,bB hu,Result.andThen_ok,ct hs,if_neg hne,if_neg hne0,Sem.run_pure];have hzr:(zeroValue e).run P w= .ok z' w:=by simp[zeroValue,typeInfo,hi,hz']
     simp[hzr,hf'',newRow]
   . have:len<=len*s:=Nat.le_mul_of_pos_right len (Nat.pos_of_ne_zero (λq=>by rw[q]at h2;simp at h2));unfold fe;omega
theorem uk {tm tm':T Value}{o:Op}{e:TypeId}{l:List Value}{mk:Nat->Value}(hx:∀x∈o.operands.toList,bM P tm' x=bM P tm x)(h:Tw P tm o e l mk):Tw P tm' o e l mk:=by
 rcases h with h | ⟨t,len,ps,vs,s,z,cells,ho,hvs,h⟩
 . exact .inl h
 . refine .inr ⟨t,len,ps,vs,s,z,cells,ho,?_,h⟩;rw[<- hvs];refine kE _ λp hp=>hx p.2 ?_;rw[ho];show p.2∈((ps.toList.map (·.2)).toArray).toList;exact List.mem_map.2 ⟨p,hp,rfl⟩
def yT (P:Program)(φ:cO)(H:T OB)(tm:T Value)(ops:Array Oper)(κ:Nat->Nat)(lo hi:Nat)(p:Nat)(o:Oper):Prop:=
 (ca tm ops o=some false/\∀d,o.dst=some d->tm.get (bits d)=some undef)\/
 (ca tm ops o=some true/\Aj o.op=true/\∃u,(∀d,o.dst=some d->tm.get (bits d)=some u)/\(mG o.op=false->rd P H tm o=some u))\/
 (ca tm ops o=some true/\qX o.op=true/\∃e l mk,Tw P tm o.op e l mk/\φ[κ p]? = some none/\hp H (κ p)=some (di l e)/\lo<=κ p/\κ p<hi/\
  ∀d,o.dst=some d->tm.get (bits d)=some (mk (κ p)))
def Mask (ops:Array Oper)(done π:List Nat)(t:Nat):Prop:=∃p,p∈π/\p∈done/\ja ops p=some t
structure fo (P:Program)(φ:cO)(H:T OB)(tm:T Value)(tmps:Array Value)(ops:Array Oper)(done jw:List Nat)(pl:List (Nat×List Nat))(π:List Nat)(κ:Nat->Nat)(lo hi:Nat):Prop where
 sa:tx ops=true
 ac:acyclic ops=true
 FV:gq ops (jE ops) done jw pl=true
 KD:rL ops π
 todo:∀i,i<ops.size->i∉done->i∈π
 closed:∀i,i∉π->∀o,ops[i]? = some o->∀e∈o.after,Region.binds .any e=true->e.on∉π
 ready:∀i,i∈done->∀o,ops[i]? = some o->eC ops done o=true
 tr:yR φ (Mask ops done π) tm tmps
 KX:∀i o d,ops[i]? = some o->o.dst=some d->i∈done->d<tmps.size
 prom:∀p,p∈π->p∈done->∀o,ops[p]? = some o->yT P φ H tm ops κ lo hi p o
 jw:∀p,p∈π->p∈done->∀o,ops[p]? = some o->mG o.op=true->p∈jw
 inj:∀p q,p∈π->p∈done->q∈π->q∈done->∀o o',ops[p]? = some o->ops[q]? = some o'->qX o.op=true->qX o'.op=true->
  ca tm ops o=some true->ca tm ops o'=some true->κ p=κ q->p=q
 own:∀p,p∈π->p∈done->p∉j7 ops
def kF (P:Program)(H:T OB)(tm:T Value)(ops:Array Oper)(done π:List Nat):Prop:=
 ∀p,p∈π->p∈done->∀o,ops[p]? = some o->mG o.op=true->ca tm ops o=some true->∃u,rd P H tm o=some u/\∀d,o.dst=some d->tm.get (bits d)=some u
theorem ib {o:Oper}{j:Nat}:direct o j=true↔∃e∈o.after,Region.binds .any e=true/\e.on=j:=by
 unfold direct;rw[List.any_eq_true];constructor
 . rintro⟨e,he,h⟩;simp only[Bool.and_eq_true,beq_iff_eq]at h;exact⟨e,by simpa using he,h.1,h.2⟩
 . rintro⟨e,he,h1,h2⟩;exact⟨e,by simpa using he,by simp[h1,h2]⟩
theorem yU (hs:tx ops=true){i j:Nat}{o q:Oper}{d:Tmp}(hi:ops[i]? = some o)(hj:ops[j]? = some q)(hd:q.dst=some d)(hl:d∈o.looksAt ops):direct o j=true\/direct q i=true:=by
 have h1:=List.all_eq_true.1 hs i (List.mem_range.2 (Array.getElem?_eq_some_iff.1 hi).1);have h2:=List.all_eq_true.1 h1 j (List.mem_range.2 (Array.getElem?_eq_some_iff.1 hj).1);simp only[hi,hj,hd,Bool.and_eq_true,Bool.or_eq_true,Bool.not_eq_true']at h2;rcases h2.1 with(h3 | h3) | h3
 . have h4:(o.looksAt ops).contains d=true:=by simpa using hl
   rw[h3]at h4;cases h4
 . exact .inl h3
 . exact .inr h3
theorem yV {i j:Nat}(hn:j∉j7 ops){o q:Oper}{d:Tmp}(hi:ops[i]? = some o)(hj:ops[j]? = some q)(hd:q.dst=some d)(hl:d∈o.looksAt ops):direct o j=true:=by
 cases h:direct o j with
 | true=>rfl
 | false=>
   refine absurd ?_ hn;unfold j7;rw[List.mem_filter];refine⟨List.mem_range.2 (Array.getElem?_eq_some_iff.1 hj).1,?_⟩;simp only[hj,hd];rw[List.any_eq_true];refine⟨i,List.mem_range.2 (Array.getElem?_eq_some_iff.1 hi).1,?_⟩;simp only[hi,h];have h4:(o.looksAt ops).contains d=true:=by simpa using hl
   rw[h4];rfl
theorem PC (hs:tx ops=true){i j:Nat}{o q:Oper}{d:Tmp}(hi:ops[i]? = some o)(hj:ops[j]? = some q)(hd:q.dst=some d)(hne:i≠j):o.dst≠some d:=by
 have h1:=List.all_eq_true.1 hs i (List.mem_range.2 (Array.getElem?_eq_some_iff.1 hi).1);have h2:=List.all_eq_true.1 h1 j (List.mem_range.2 (Array.getElem?_eq_some_iff.1 hj).1);simp only[hi,hj,hd,Bool.and_eq_true,Bool.or_eq_true,Bool.not_eq_true',beq_iff_eq,bne_iff_ne]at h2;exact h2.2.resolve_left hne
theorem kG {o:Oper}{t:Nat}(h:Operand.tmp t∈o.op.operands.toList):t∈o.looksAt ops:=by
 unfold Oper.looksAt;exact List.mem_append_left _ (List.mem_filterMap.2 ⟨.tmp t,h,rfl⟩)
theorem kH {o:Oper}{p:Nat×Bool}{d:Tmp}(hg:o.guard=some p)(hd:ja ops p.1=some d):d∈o.looksAt ops:=by
 unfold Oper.looksAt;refine List.mem_append_right _ ?_;obtain⟨j,b⟩:=p;rw[hg];have hd':(ops[j]?).bind (·.dst)=some d:=by
  unfold ja at hd;cases hj:ops[j]? with
  | none=>rw[hj]at hd;cases hd
  | some q=>rw[hj]at hd;exact hd
 simp only[hd',Option.toList_some,List.mem_singleton]
theorem rO {ops:Array Oper}{p t:Nat}(h:ja ops p=some t):∃q,ops[p]? = some q/\q.dst=some t:=by
 unfold ja at h;cases hj:ops[p]? with
 | none=>rw[hj]at h;cases h
 | some q=>rw[hj]at h;exact⟨q,rfl,h⟩
theorem lj {q:Nat}{π:List Nat}(hlin:rL ops (q::π)){done:List Nat}(hown:∀p,p∈q::π->p∈done->p∉j7 ops){o:Oper}(ho:ops[q]? = some o){t:Nat}(ht:t∈o.looksAt ops):¬Mask ops done (q::π) t:=by
 rintro⟨p,hp,hpd,hd⟩;obtain⟨oq,h1,h2⟩:=rO hd;have h3:=ib.1 (yV (hown p hp hpd) ho h1 h2 ht);obtain⟨e,he,hb,hon⟩:=h3;obtain⟨⟨o',ho',hdeps⟩,_⟩:=hlin;rw[ho]at ho';cases ho';exact hdeps e he hb (by rw[hon];exact hp)
section
variable {done jw:List Nat}{pl:List (Nat×List Nat)}{π:List Nat}{κ:Nat->Nat}{lo hi:Nat}{fn:FB}{k:List Item}{cs:List Frame}
theorem Cb {op:Op}(h:qX op=true):Aj op=false:=by
 cases op<;>first | rfl | cases h
theorem KY {op:Op}(h:qX op=true):mG op=false:=by
 cases op<;>first | rfl | cases h
theorem G0 {j:Nat}(h:j∉jE ops):j∉j7 ops:=λq=>h (by
 unfold jE;split
 . exact List.mem_append_left _ q
 . exact q)
theorem FW (hH:HR P W φ (hp H) w){q:Nat}(hD:fo P φ H tm tmps ops done jw pl (q::π) κ lo hi)(hL:kF P H tm ops done (q::π))(hq:q∈done):
 ∃φ' tmps' w',step P (lone (dD fn tmps (.inRegion ops (q::π)::k)) cs w)= .next (lone (dD fn tmps' (.inRegion ops π::k)) cs w')/\
  φ.le φ'/\HR P W φ' (hp H) w'/\φ'.length=φ.length/\(∀j,j<lo->φ[j]? = some none->φ'[j]? = some none)/\
  fo P φ' H tm tmps' ops done jw pl π κ lo hi/\kF P H tm ops done π/\tmps'.size=tmps.size:=by
 obtain⟨⟨o,ho,hdeps⟩,hnq,hlin⟩:=hD.KD;have hop:nT P φ tm (dS tmps) o.op.operands.toList:=vk hH.gl hD.tr λt ht=>lj hD.KD hD.own ho (kG ht);have hgd:∀b,ca tm ops o=some b->Region.wanted o (yielded ops tmps)=b:=λb hb=>oi hD.tr (λp hp d hd=>lj hD.KD hD.own ho (kH hp hd)) hb;have hd:∀d,o.dst=some d->d<tmps.size:=λd h=>hD.KX q o d ho h hq;have rest:∀(ψ:cO) (u u':Value),φ.le ψ->(∀d,o.dst=some d->tm.get (bits d)=some u)->VR ψ u u'->
  (∀p,p∈π->p∈done->∀o',ops[p]? = some o'->yT P ψ H tm ops κ lo hi p o')->fo P ψ H tm (jg tmps o.dst u') ops done jw pl π κ lo hi:=by
  intro ψ u u' hle hu hv hp;refine⟨hD.sa,hD.ac,hD.FV,hlin,λi hi hn=> ?_,λi hi x hx e he hb=> ?_,hD.ready,λt v hv'=> ?_,λi x d hx hxd hi=>by rw[ej];exact hD.KX i x d hx hxd hi,hp,
   λp hp=>hD.jw p (List.mem_cons_of_mem _ hp),λp p' hp hpd hp' hpd'=>hD.inj p p' (List.mem_cons_of_mem _ hp) hpd (List.mem_cons_of_mem _ hp') hpd',λp hp hpd=>hD.own p (List.mem_cons_of_mem _ hp) hpd⟩
  . rcases List.mem_cons.1 (hD.todo i hi hn)with h | h
    . subst h;exact absurd hq hn
    . exact h
  . by_cases hiq:i=q
    . subst hiq;rw[ho]at hx;cases hx;exact λh=>hdeps e he hb (List.mem_cons_of_mem _ h)
    . exact λh=>hD.closed i (λh=>(List.mem_cons.1 h).elim hiq hi) x hx e he hb (List.mem_cons_of_mem _ h)
  . rw[yS hd]
    by_cases ht:o.dst=some t
    . rw[if_pos ht];rw[hu t ht]at hv';cases hv';exact .inr ⟨u',rfl,hv⟩
    . rw[if_neg ht];rcases hD.tr t v hv' with⟨p,hp,hpd,hpt⟩ | ⟨v',a,b⟩
      . rcases List.mem_cons.1 hp with h | h
        . subst h;obtain⟨x,hx,hxt⟩:=rO hpt;rw[ho]at hx;cases hx;exact absurd hxt ht
        . exact .inl ⟨p,h,hpd,hpt⟩
      . exact .inr ⟨v',a,b.mono hle⟩
 have hL':kF P H tm ops done π:=λp hp=>hL p (List.mem_cons_of_mem _ hp);have hprom:∀p,p∈π->p∈done->∀o',ops[p]? = some o'->yT P φ H tm ops κ lo hi p o':=λp hp=>hD.prom p (List.mem_cons_of_mem _ hp);rcases hD.prom q (by simp) hq o ho with⟨hw,hu⟩ | ⟨hw,hrd,u,hu,hnl⟩ | ⟨hw,hal,e,l,mk,hz,hk,hkb,kC,hhi,hu⟩
 . exact⟨φ,_,w,rN ho (hgd _ hw),φ.le_refl,hH,rfl,λ_ _ h=>h,rest φ undef undef φ.le_refl hu (.flat _ rfl) hprom,hL',ej _ _ _⟩
 . have hr:∃u,rd P H tm o=some u/\∀d,o.dst=some d->tm.get (bits d)=some u:=by
    cases hl:mG o.op with
    | false=>exact⟨u,hnl hl,hu⟩
    | true=>exact hL q (by simp) hq o ho hl hw
   obtain⟨u,hr,hu⟩:=hr;obtain⟨u',hv,hrun⟩:=rA hH hop hr;exact⟨φ,_,w,eP ho (hgd _ hw) hrun,φ.le_refl,hH,rfl,λ_ _ h=>h,rest φ u u' φ.le_refl hu hv hprom,hL',ej _ _ _⟩
 . obtain⟨l',mk',hLR,hrun,hmk⟩:=PB hop hz;have hob:=vh (P:=P) (W:=W) (w:=w) hLR e e #[] (es:=(bq P e).getD 0) (λy hy=>by rw[hy];rfl) hH.below;rw[Array.append_empty]at hob;have hb:=hH.bind hk hkb (.cells l'.toArray e) hob;refine⟨_,_,_,eP ho (hgd _ hw) hrun,og hk _,hb,by simp,λj hj h=> ?_,rest _ (mk (κ q)) _ (og hk _) hu (hmk _ _ _ (KV hk _)) ?_,hL',ej _ _ _⟩
   . rw[List.getElem?_set_ne (by omega)];exact h
   . intro p hp hpd o' ho';rcases hprom p hp hpd o' ho' with h | h | ⟨hw',hal',e',l',mk2,hz'',hk',hkb',hlo',hhi',hu'⟩
     . exact .inl h
     . exact .inr (.inl h)
     . refine .inr (.inr ⟨hw',hal',e',l',mk2,hz'',?_,hkb',hlo',hhi',hu'⟩);rw[List.getElem?_set_ne]
       . exact hk'
       . intro heq;have:=hD.inj q p (by simp) hq (List.mem_cons_of_mem _ hp) hpd o o' ho ho' hal hal' hw hw' heq;subst this;exact hnq hp
theorem rP:∀(π:List Nat) (φ:cO) (tmps:Array Value) (w:World),HR P W φ (hp H) w->fo P φ H tm tmps ops done jw pl π κ lo hi->kF P H tm ops done π->
 ∃φ' tmps' w' π',Steps P (lone (dD fn tmps (.inRegion ops π::k)) cs w) (lone (dD fn tmps' (.inRegion ops π'::k)) cs w')/\
  φ.le φ'/\HR P W φ' (hp H) w'/\φ'.length=φ.length/\(∀j,j<lo->φ[j]? = some none->φ'[j]? = some none)/\
  fo P φ' H tm tmps' ops done jw pl π' κ lo hi/\kF P H tm ops done π'/\tmps'.size=tmps.size/\(∀q l,π'=q::l->q∉done)
 | [],φ,tmps,w,hH,hD,hL=>⟨φ,tmps,w,[],.refl _ _,φ.le_refl,hH,rfl,λ_ _ h=>h,hD,hL,rfl,λq l h=>by cases h⟩
 | q::π,φ,tmps,w,hH,hD,hL=>by
   by_cases hq:q∈done
   . obtain⟨φ1,tmps1,w1,hs,hle,hH1,hl1,hk1,hD1,hL1,hz1⟩:=FW (fn:=fn) (k:=k) (cs:=cs) hH hD hL hq;obtain⟨φ2,tmps2,w2,π2,hs2,hle2,hH2,hl2,hk2,hD2,hL2,hz2,hn2⟩:=rP π φ1 tmps1 w1 hH1 hD1 hL1;exact⟨φ2,tmps2,w2,π2,.head hs hs2,cO.le_trans hle hle2,hH2,hl2.trans hl1,λj hj h=>hk2 j hj (hk1 j hj h),hD2,hL2,hz2.trans hz1,hn2⟩
   . exact⟨φ,tmps,w,q::π,.refl _ _,φ.le_refl,hH,rfl,λ_ _ h=>h,hD,hL,rfl,λq' l h=>by cases h;exact hq⟩
end
end
section
variable {P:Program}{W w:World}{φ φ':cO}{H H':T OB}{tm:T Value}{tmps:Array Value}{ops:Array Oper}
variable {done jw:List Nat}{pl:List (Nat×List Nat)}{π:List Nat}{κ:Nat->Nat}{lo hi:Nat}
theorem AI {β:Type}{F:Option OB->Option β}(hF:F none=none){b:Nat}{u:β}(hext:∀k ob,hp H k=some ob->hp H' k=some ob)(h:F (H.get (bits b))=some u):H'.get (bits b)=H.get (bits b):=by
 cases hg:H.get (bits b)with
 | none=>rw[hg,hF]at h;cases h
 | some ob=>exact hext b ob hg
theorem yW {F:Option OB->Bool}(hF:F none=false){b:Nat}(hext:∀k ob,hp H k=some ob->hp H' k=some ob)(h:F (H.get (bits b))=true):H'.get (bits b)=H.get (bits b):=by
 cases hg:H.get (bits b)with
 | none=>rw[hg,hF]at h;cases h
 | some ob=>exact hext b ob hg
theorem oY {b:Nat}(hext:∀k ob,hp H k=some ob->hp H' k=some ob)(h:jA H b=true):jA H' b=true:=by
 unfold jA at h ⊢;rw[yW (F:=λx=>dV x (λ_ _ _=>true) false) rfl hext h];exact h
theorem PD {o:Oper}{u:Value}(hext:∀k ob,hp H k=some ob->hp H' k=some ob)(h:rd P H tm o=some u):rd P H' tm o=some u:=by
 cases hl:mG o.op with
 | false=>rw[Ca hl];exact h
 | true=>
   unfold rd at h ⊢;cases ho:o.op with
   | load t x=>
     simp only[ho]at h ⊢;unfold ae at h ⊢;split at h
     . rename_i b off _;unfold j5 at h ⊢;rw[AI (F:=λx=>tq x (λn tr=>kn P n tr t off) none) rfl hext h];exact h
     . exact h
     . cases h
   | slice t x lo hi mx=>
     simp only[ho]at h ⊢;unfold bA at h ⊢;split at h
     . rename_i b off len cap hx;obtain⟨hm,h⟩:=aY h;rw[hm];obtain⟨s,hs,h3⟩:=aM h;obtain⟨l,hl,h3⟩:=aM h3;obtain⟨hh,hhi,h3⟩:=aM h3;simp only[cond_true,hs,aT,hl,hhi];cases hc:Nat.beq cap fe with
       | false=>rw[hc]at h3;exact h3
       | true=>
         rw[hc]at h3;have h3:nV P H b off len s l hh=some u:=h3;show nV P H' b off len s l hh=some u;unfold nV at h3 ⊢;obtain⟨h4,h5⟩:=aY h3;rw[h4];cases h6:Nat.beq l 0 with
         | true=>rw[h6]at h5;exact h5
         | false=>
           rw[h6]at h5;obtain⟨h7,h8⟩:=aY (show(bif Nat.blt l len&&tt P H b s then bO (Nat.sub hh l) (λn=>bO (Nat.add off (Nat.mul l s)) λo=>some (Value.slice (some ⟨b,o,none⟩) n fe))else none)=some u from h5);simp only[Bool.and_eq_true]at h7;have h9:tt P H' b s=true:=by
            have h9:=h7.2;unfold tt at h9 ⊢;rw[yW (F:=λx=>dV x (λ_ _ el=>aa (bq P el) (λz=>Nat.beq z s) false) false) rfl hext h9];exact h9
           show(bif Nat.blt l len&&tt P H' b s then bO (Nat.sub hh l) (λn=>bO (Nat.add off (Nat.mul l s)) λo=>some (Value.slice (some ⟨b,o,none⟩) n fe))else none)=some u;rw[h7.1,h9];exact h8
     . exact h
     . exact h
     . cases h
   | lookup t m k ok=>
     simp only[ho]at h ⊢;have h:fT P H t (bM P tm m) (bM P tm k) ok=some u:=h;show fT P H' t (bM P tm m) (bM P tm k) ok=some u;have he:Fu H' (bM P tm m)=Fu H (bM P tm m):=by
      unfold fT at h;obtain⟨kt,et,d,_,_,_,h⟩:=ue h;obtain⟨es,hes,_⟩:=aM h;unfold Fu at hes ⊢;split at hes
      . rfl
      . rename_i b;rw[AI (F:=λx=>match x with | some (.map es _)=>some es | _=>none) rfl hext hes]
      . cases hes
     unfold fT at h ⊢;rw[he];exact h
   | convert s d x=>
     simp only[ho]at h ⊢;unfold ck at h ⊢;split at h
     . rename_i b off n cp hx;obtain⟨h1,h2⟩:=aY h;rw[h1];show tq (H'.get (bits b)) _ none=some u;rw[AI (F:=λx=>tq x (λm tr=>bif Nat.ble (off+n) m then aa (pE tr n off) (λl=>aa (strOf l) (λr=>some (Value.string ⟨⟨r⟩⟩)) none) none else none) none) rfl hext h2];exact h2
     . exact h
     . cases h
   | binOp op t x y yt=>
     simp only[ho]at h ⊢;unfold ai at h ⊢;obtain⟨a,ha,h⟩:=aM h;obtain⟨b,hb,h⟩:=aM h;rw[ha,hb];simp only[aT];have two:∀a b,kp P H op t (tu x||tu y) a b=some u->kp P H' op t (tu x||tu y) a b=some u:=λa b h=>by
      unfold kp at h ⊢;cases hf:flat a&&flat b with
      | true=>rw[hf]at h;exact h
      | false=>
        rw[hf]at h;have h:qS P H op t a b=some u:=h;show qS P H' op t a b=some u;unfold qS at h ⊢;split at h
        . split at h
          . obtain⟨hc,h⟩:=aY h;simp only[Bool.and_eq_true]at hc;rw[oY hext hc.1,oY hext hc.2];exact h
          . cases h
        . exact h
     unfold Ai at h ⊢;split at h
     . unfold Gu at h ⊢;split at h
       . exact h
       . exact two _ _ h
     . exact two _ _ h
   | _=>rw[ho]at hl;cases hl
theorem iI {an:List Nat}{i:Nat}{chk:List Nat}{rest:List (Nat×List Nat)}(h:gq ops an done jw ((i,chk)::rest)=true):
 ∃o,ops[i]? = some o/\i∉done/\eC ops done o=true/\
  (ku an i o=true->gq ops an (i::done) (if mG o.op=true then i::jw else jw) rest=true)/\
  (ku an i o=false->(Aj o.op=true->chk=[])/\(∀j∈rest,∀q,ops[j.1]? = some q->eC ops done q=false)/\(∀p∈jw,p∈chk\/p∈Gy ops i)/\gq ops an (i::done) chk rest=true):=by
 unfold gq at h;cases ho:ops[i]? with
 | none=>simp only[ho]at h;cases h
 | some o=>
   simp only[ho,Bool.and_eq_true,Bool.not_eq_true']at h;obtain⟨⟨h1,h2⟩,h3⟩:=h;refine⟨o,rfl,λq=> ?_,h2,λhc=> ?_,λhc=> ?_⟩
   . have:done.contains i=true:=by simpa using q
     rw[h1]at this;cases this
   . rw[if_pos hc]at h3;exact h3
   . rw[if_neg (by rw[hc];decide)]at h3;simp only[Bool.and_eq_true]at h3;refine⟨λhr=>by simpa[hr]using h3.1.1.1,λj hj q hq=> ?_,λp hp=> ?_,h3.2⟩
     . have:=List.all_eq_true.1 h3.1.1.2 j hj;rw[hq]at this;simpa using this
     . have:=List.all_eq_true.1 h3.1.2 p hp;simpa using this
theorem mg {an:List Nat}:∀(pl:List (Nat×List Nat)) (done jw:List Nat),gq ops an done jw pl=true->∀i,i<ops.size->i∈done\/∃c,(i,c)∈pl
 | [],done,jw,h,i,hi=>by
   unfold gq at h;have:=List.all_eq_true.1 h i (List.mem_range.2 hi);exact .inl (by simpa using this)
 | (j,chk)::rest,done,jw,h,i,hi=>by
   obtain⟨o,_,_,_,h1,h2⟩:=iI h;have key:∀lds',gq ops an (j::done) lds' rest=true->i∈done\/∃c,(i,c)∈(j,chk)::rest:=λlds' hh=>by
    rcases mg rest (j::done) lds' hh i hi with h | ⟨c,h⟩
    . rcases List.mem_cons.1 h with h | h
      . subst h;exact .inr ⟨chk,by simp⟩
      . exact .inl h
    . exact .inr ⟨c,List.mem_cons_of_mem _ h⟩
   cases hc:ku an j o with
   | true=>exact key _ (h1 hc)
   | false=>exact key _ (h2 hc).2.2.2
theorem dI {o:Oper}:eC ops done o=true↔∀e∈o.after,Region.binds .any e=true->e.on∈done:=by
 unfold eC;rw[List.all_eq_true];constructor
 . intro h e he hb;have:=h e (by simpa using he);simpa[hb]using this
 . intro h e he;cases hb:Region.binds .any e with
   | false=>rfl
   | true=>simpa using h e (by simpa using he) hb
theorem rQ {i p:Nat}(hna:i∉j7 ops){o op:Oper}(ho:ops[i]? = some o)(hp:ops[p]? = some op)(hr:eC ops done op=true)(hi:i∉done){d:Tmp}(hd:o.dst=some d):d∉op.looksAt ops:=λhl=>by
 obtain⟨e,he,hb,hon⟩:=ib.1 (yV hna hp ho hd hl);exact hi (hon ▸ dI.1 hr e he hb)
theorem yX (hs:tx ops=true){i p:Nat}{o op:Oper}(ho:ops[i]? = some o)(hp:ops[p]? = some op)(hr:eC ops done op=true)(hi:i∉done)(hdeps:∀e∈o.after,Region.binds .any e=true->e.on≠p){d:Tmp}(hd:o.dst=some d):d∉op.looksAt ops:=λhl=>by
 rcases yU hs hp ho hd hl with h | h
 . obtain⟨e,he,hb,hon⟩:=ib.1 h;exact hi (hon ▸ dI.1 hr e he hb)
 . obtain⟨e,he,hb,hon⟩:=ib.1 h;exact hdeps e he hb hon
theorem kI {i p:Nat}{o op:Oper}{u:Value}(hl:∀d,o.dst=some d->d∉op.looksAt ops):ca (cL tm o.dst u) ops op=ca tm ops op:=
 tE λg hg d hd=>by
  rw[fG,if_neg];exact λq=>hl d q (kH hg hd)
theorem oo {o op:Oper}{u:Value}(hl:∀d,o.dst=some d->d∉op.looksAt ops):rd P H (cL tm o.dst u) op=rd P H tm op:=
 GX λx hx=>om tm o.dst u x λd hd q=>by
  subst q;exact hl d hd (kG hx)
theorem rR {i p:Nat}{o op:Oper}{u:Value}(hs:tx ops=true)(ho:ops[i]? = some o)(hp:ops[p]? = some op)(hne:i≠p){d:Tmp}(hd:op.dst=some d):
 (cL tm o.dst u).get (bits d)=tm.get (bits d):=by
 rw[fG,if_neg (PC hs ho hp hd hne)]
theorem yT.next {i p:Nat}{o op:Oper}{u:Value}{κ':Nat->Nat}{hi':Nat}(hs:tx ops=true)(ho:ops[i]? = some o)(hp':ops[p]? = some op)(hne:i≠p)
 (hl:∀d,o.dst=some d->d∉op.looksAt ops) (hk:∀k,k<hi->φ[k]? = some none->φ'[k]? = some none/\hp H' k=hp H k) (hκ:κ' p=κ p) (hhi:hi<=hi')
 (h:yT P φ H tm ops κ lo hi p op):yT P φ' H' (cL tm o.dst u) ops κ' lo hi' p op:=by
 have e1:ca (cL tm o.dst u) ops op=ca tm ops op:=kI (i:=i) (p:=p) hl;have e2:∀d,op.dst=some d->(cL tm o.dst u).get (bits d)=tm.get (bits d):=λd hd=>rR hs ho hp' hne hd
 rcases h with⟨h1,h2⟩ | ⟨h1,h2,v,h3,h4⟩ | ⟨h1,hal,e,l,mk,h3,h4,h5,h6,h7,h8⟩
 . exact .inl ⟨e1.trans h1,λd hd=>(e2 d hd).trans (h2 d hd)⟩
 . exact .inr (.inl ⟨e1.trans h1,h2,v,λd hd=>(e2 d hd).trans (h3 d hd),λq=>by rw[oo hl,Ca q];exact h4 q⟩)
 . refine .inr (.inr ⟨e1.trans h1,hal,e,l,mk,uk (λx hx=>om tm o.dst u x λd hd q=>by
    subst q;exact hl d hd (kG hx)) h3,?_,?_,?_,?_,λd hd=> ?_⟩)
   . rw[hκ];exact(hk _ h7 h4).1
   . rw[hκ];exact(hk _ h7 h4).2.trans h5
   . rw[hκ];exact h6
   . rw[hκ];omega
   . rw[hκ];exact(e2 d hd).trans (h8 d hd)
theorem vl (hac:acyclic ops=true){i:Nat}{o:Oper}(ho:ops[i]? = some o):direct o i=false:=by
 cases h:direct o i with
 | false=>rfl
 | true=>
   obtain⟨e,he,hb,hon⟩:=ib.1 h;have h1:=List.all_eq_true.1 hac i (List.mem_range.2 (Array.getElem?_eq_some_iff.1 ho).1);rw[ho]at h1;have h2:=List.all_eq_true.1 h1 e (by simpa using he);simp only[hb,Bool.not_true,Bool.false_or]at h2;have:=eN h2;omega
theorem G5 (hs:tx ops=true)(hac:acyclic ops=true){i:Nat}{o:Oper}(ho:ops[i]? = some o){d:Tmp}(hd:o.dst=some d):d∉o.looksAt ops:=λhl=>by
 have:=(yU hs ho ho hd hl).elim id id;rw[vl hac ho]at this;cases this
theorem fo.take {i:Nat}{o:Oper}{chk:List Nat}{rest:List (Nat×List Nat)}(hD:fo P φ H tm tmps ops done jw ((i,chk)::rest) π κ lo hi)(ho:ops[i]? = some o)
 (hna:i∉j7 ops) (hni:i∉done) (hrdy:eC ops done o=true) {lds':List Nat} (hplan:gq ops (jE ops) (i::done) lds' rest=true) (hsub:∀p∈jw,p∈lds') (hself:mG o.op=true->i∈lds')
 {κ':Nat->Nat} {hi':Nat} (hle:φ.le φ') (hk:∀k,k<hi->φ[k]? = some none->φ'[k]? = some none/\hp H' k=hp H k) (hκ:∀p,p≠i->κ' p=κ p) (hhi:hi<=hi') {u:Value}
 (hdst:∀d,o.dst=some d->d<tmps.size) (hprom:yT P φ' H' (cL tm o.dst u) ops κ' lo hi' i o) (hfresh:qX o.op=true->hi<=κ' i):
 fo P φ' H' (cL tm o.dst u) tmps ops (i::done) lds' rest π κ' lo hi':=by
 have hisz:i<ops.size:=(Array.getElem?_eq_some_iff.1 ho).1;have hiπ:i∈π:=hD.todo i hisz hni;have nl:∀p,p∈done->∀op,ops[p]? = some op->∀d,o.dst=some d->d∉op.looksAt ops:=λp hpd op hp d hd=>rQ hna ho hp (hD.ready p hpd op hp) hni hd;have hlt:∀q,q∈π->q∈done->∀o',ops[q]? = some o'->qX o'.op=true->ca tm ops o'=some true->κ q<hi:=λq hq hqd o' ho' hal hw=>by
  rcases hD.prom q hq hqd o' ho' with⟨h1,_⟩ | ⟨_,h2,_⟩ | ⟨_,_,_,_,_,_,_,_,_,h7,_⟩
  . rw[hw]at h1;cases h1
  . rw[Cb hal]at h2;cases h2
  . exact h7
 refine⟨hD.sa,hD.ac,hplan,hD.KD,λj hj hn=>hD.todo j hj (λq=>hn (List.mem_cons_of_mem _ q)),hD.closed,λj hj x hx=> ?_,λt v hv=> ?_,λj x d hx hxd hj=> ?_,λp hp hpd op hop=> ?_,λp hp hpd op hop hl=> ?_,λp q hp hpd hq hqd x y hx hy hxa hya hxw hyw heq=> ?_,λp hp hpd=>(List.mem_cons.1 hpd).elim (λh=>h ▸ hna) (hD.own p hp)⟩
 . rw[dI];intro e he hb;rcases List.mem_cons.1 hj with h | h
   . subst h;rw[ho]at hx;cases hx;exact List.mem_cons_of_mem _ (dI.1 hrdy e he hb)
   . exact List.mem_cons_of_mem _ (dI.1 (hD.ready j h x hx) e he hb)
 . rw[fG]at hv
   by_cases ht:o.dst=some t
   . refine .inl ⟨i,hiπ,by simp,?_⟩;unfold ja;rw[ho];exact ht
   . rw[if_neg ht]at hv;rcases hD.tr t v hv with⟨p,h1,h2,h3⟩ | ⟨v',a,b⟩
     . exact .inl ⟨p,h1,List.mem_cons_of_mem _ h2,h3⟩
     . exact .inr ⟨v',a,b.mono hle⟩
 . rcases List.mem_cons.1 hj with h | h
   . subst h;rw[ho]at hx;cases hx;exact hdst d hxd
   . exact hD.KX j x d hx hxd h
 . rcases List.mem_cons.1 hpd with h | h
   . subst h;rw[ho]at hop;cases hop;exact hprom
   . have hne:i≠p:=λq=>hni (q ▸ h);exact(hD.prom p hp h op hop).next hD.sa ho hop hne (nl p h op hop) hk (hκ p (Ne.symm hne)) hhi
 . rcases List.mem_cons.1 hpd with h | h
   . subst h;rw[ho]at hop;cases hop;exact hself hl
   . exact hsub p (hD.jw p hp h op hop hl)
 . have wst:∀p,p∈done->∀x,ops[p]? = some x->ca (cL tm o.dst u) ops x=some true->ca tm ops x=some true:=λp hpd x hx h=>by
    rw[kI (i:=i) (p:=p) (nl p hpd x hx)]at h;exact h
   rcases List.mem_cons.1 hpd with h | h<;>rcases List.mem_cons.1 hqd with h' | h'
   . rw[h,h']
   . have hne:q≠i:=λz=>hni (z ▸ h');rw[hκ q hne,h]at heq;rw[h]at hx;rw[ho]at hx;cases hx;have:=hfresh hxa;have:=hlt q hq h' y hy hya (wst q h' y hy hyw);omega
   . have hne:p≠i:=λz=>hni (z ▸ h);rw[hκ p hne,h']at heq;rw[h']at hy;rw[ho]at hy;cases hy;have:=hfresh hya;have:=hlt p hp h x hx hxa (wst p h x hx hxw);omega
   . have hne:p≠i:=λz=>hni (z ▸ h);have hne':q≠i:=λz=>hni (z ▸ h');rw[hκ p hne,hκ q hne']at heq;exact hD.inj p q hp h hq h' x y hx hy hxa hya (wst p h x hx hxw) (wst q h' y hy hyw) heq
theorem kF.take {i:Nat}{o:Oper}(hs:tx ops=true)(hready:∀i,i∈done->∀o,ops[i]? = some o->eC ops done o=true)(ho:ops[i]? = some o)(hna:i∉j7 ops)(hni:i∉done)(hL:kF P H tm ops done π)
 (hext:∀k ob,hp H k=some ob->hp H' k=some ob) {u:Value} (hself:mG o.op=true->ca (cL tm o.dst u) ops o=some true->rd P H' (cL tm o.dst u) o=some u):
 kF P H' (cL tm o.dst u) ops (i::done) π:=by
 intro p hp hpd op hop hl hw;rcases List.mem_cons.1 hpd with h | h
 . subst h;rw[ho]at hop;cases hop;refine⟨u,hself hl hw,λd hd=> ?_⟩;rw[fG,if_pos hd]
 . have nl:∀d,o.dst=some d->d∉op.looksAt ops:=λd hd=>rQ hna ho hop (hready p h op hop) hni hd;have hne:i≠p:=λq=>hni (q ▸ h);rw[kI (i:=i) (p:=p) nl]at hw;obtain⟨v,h1,h2⟩:=hL p hp h op hop hl hw;refine⟨v,?_,λd hd=> ?_⟩
   . rw[oo nl];exact PD hext h1
   . rw[rR hs ho hop hne hd];exact h2 d hd
theorem pI {L:List Nat}(hcl:∀i,i∉L->∀o,ops[i]? = some o->∀e∈o.after,Region.binds .any e=true->e.on∉L):∀(q:Nat) (acc:List Nat),(∀x∈acc,x∉L)->∀x∈tU ops q acc,x∉L
 | 0,acc,h,x,hx=>h x hx
 | q+1,acc,h,x,hx=>by
   unfold tU at hx;split at hx
   . rename_i hc;split at hx
     . rename_i o ho;refine pI hcl q _ ?_ x hx;have hq:q∉L:=h q (by simpa using hc);have:∀(es:List Edge) (acc:List Nat),(∀e∈es,e∈o.after)->(∀x∈acc,x∉L)->∀x∈es.foldl (λl e=>if Region.binds .any e=true then e.on::l else l) acc,x∉L:=by
        intro es
        induction es with
        | nil=>exact λacc _ h=>h
        | cons e es ih=>
          intro acc hes h;refine ih _ (λe' he'=>hes e' (List.mem_cons_of_mem _ he')) ?_
          dsimp only
          split
          . rename_i hb;intro x hx;rcases List.mem_cons.1 hx with hx | hx
            . subst hx;exact hcl q hq o ho e (hes e (by simp)) hb
            . exact h x hx
          . exact h
       exact this _ _ (λe he=>by simpa using he) h
     . exact pI hcl q _ h x hx
   . exact pI hcl q _ h x hx
theorem G6 {i:Nat}{π:List Nat}(hlin:rL ops (i::π))(hcl:∀j,j∉i::π->∀o,ops[j]? = some o->∀e∈o.after,Region.binds .any e=true->e.on∉i::π):
 ∀x∈Gy ops i,x∉i::π:=by
 obtain⟨⟨o,ho,hdeps⟩,_⟩:=hlin;unfold Gy;rw[ho];refine pI hcl i _ ?_;have:∀(es:List Edge) (acc:List Nat),(∀e∈es,e∈o.after)->(∀x∈acc,x∉i::π)->∀x∈es.foldl (λl e=>if Region.binds .any e=true then e.on::l else l) acc,x∉i::π:=by
  intro es
  induction es with
  | nil=>exact λacc _ h=>h
  | cons e es ih=>
    intro acc hes h;refine ih _ (λe' he'=>hes e' (List.mem_cons_of_mem _ he')) ?_
    dsimp only
    split
    . rename_i hb;intro x hx;rcases List.mem_cons.1 hx with hx | hx
      . subst hx;exact hdeps e (hes e (by simp)) hb
      . exact h x hx
    . exact h
 exact this _ _ (λe he=>by simpa using he) (λx hx=>by cases hx)
theorem fo.finish {i:Nat}{o:Oper}{chk:List Nat}{rest:List (Nat×List Nat)}(hD:fo P φ H tm tmps ops done jw ((i,chk)::rest) (i::π) κ lo hi)(ho:ops[i]? = some o)
 (hE:ku (jE ops) i o=false) {hi':Nat} (hle:φ.le φ') (hk:∀k,k<hi->φ[k]? = some none->φ'[k]? = some none/\hp H' k=hp H k) (hhi:hi<=hi') {u u':Value} (hu:VR φ' u u')
 (hdst:∀d,o.dst=some d->d<tmps.size) (hchk:chk.all (held P H' (cL tm o.dst u) ops)=true):
 fo P φ' H' (cL tm o.dst u) (jg tmps o.dst u') ops (i::done) chk rest π κ lo hi'/\kF P H' (cL tm o.dst u) ops (i::done) π:=by
 obtain⟨o',ho',hni,hrdy,_,hpl⟩:=iI hD.FV;rw[ho]at ho';cases ho';obtain⟨_,_,hlds,hplan⟩:=hpl hE;obtain⟨⟨o',ho',hdeps⟩,hnπ,hlin⟩:=hD.KD;rw[ho]at ho';cases ho';have hanc:=G6 hD.KD hD.closed;have nl:∀p,p∈π->p∈done->∀op,ops[p]? = some op->∀d,o.dst=some d->d∉op.looksAt ops:=λp hpπ hpd op hp d hd=>yX hD.sa ho hp (hD.ready p hpd op hp) hni (λe he hb q=>hdeps e he hb (by rw[q];exact List.mem_cons_of_mem _ hpπ)) hd;have pd:∀p,p∈π->p∈i::done->p∈done:=λp hp hpd=>(List.mem_cons.1 hpd).resolve_left (λq=>hnπ (q ▸ hp));have inchk:∀p,p∈π->p∈done->∀op,ops[p]? = some op->mG op.op=true->p∈chk:=λp hp hpd op hop hl=>
  (hlds p (hD.jw p (List.mem_cons_of_mem _ hp) hpd op hop hl)).resolve_right (λq=>hanc p q (List.mem_cons_of_mem _ hp))
 refine⟨⟨hD.sa,hD.ac,hplan,hlin,λj hj hn=> ?_,λj hj x hx e he hb=> ?_,λj hj x hx=> ?_,?_,λj x d hx hxd hj=> ?_,λp hp hpd op hop=> ?_,λp hp hpd op hop hl=>inchk p hp (pd p hp hpd) op hop hl,λp q hp hpd hq hqd x y hx hy hxa hya hxw hyw heq=> ?_,λp hp hpd=>hD.own p (List.mem_cons_of_mem _ hp) (pd p hp hpd)⟩,?_⟩
 . rcases List.mem_cons.1 (hD.todo j hj (λq=>hn (List.mem_cons_of_mem _ q)))with h | h
   . subst h;exact absurd (List.mem_cons_self ..) hn
   . exact h
 . by_cases hji:j=i
   . subst hji;rw[ho]at hx;cases hx;exact λh=>hdeps e he hb (List.mem_cons_of_mem _ h)
   . exact λh=>hD.closed j (λh=>(List.mem_cons.1 h).elim hji hj) x hx e he hb (List.mem_cons_of_mem _ h)
 . rw[dI];intro e he hb;rcases List.mem_cons.1 hj with h | h
   . subst h;rw[ho]at hx;cases hx;exact List.mem_cons_of_mem _ (dI.1 hrdy e he hb)
   . exact List.mem_cons_of_mem _ (dI.1 (hD.ready j h x hx) e he hb)
 . refine(hD.tr.mono hle).put hdst hu λt ht hne=> ?_;obtain⟨p,h1,h2,h3⟩:=ht;rcases List.mem_cons.1 h1 with h | h
   . subst h;exact absurd h2 hni
   . exact⟨p,h,List.mem_cons_of_mem _ h2,h3⟩
 . rw[ej];rcases List.mem_cons.1 hj with h | h
   . subst h;rw[ho]at hx;cases hx;exact hdst d hxd
   . exact hD.KX j x d hx hxd h
 . have hpd:=pd p hp hpd;have hne:i≠p:=λq=>hni (q ▸ hpd);exact(hD.prom p (List.mem_cons_of_mem _ hp) hpd op hop).next hD.sa ho hop hne (nl p hp hpd op hop) hk rfl hhi
 . have hpd:=pd p hp hpd;have hqd:=pd q hq hqd;have wst:∀p,p∈π->p∈done->∀x,ops[p]? = some x->ca (cL tm o.dst u) ops x=some true->ca tm ops x=some true:=λp hpπ hpd x hx h=>by
    rw[kI (i:=i) (p:=p) (nl p hpπ hpd x hx)]at h;exact h
   exact hD.inj p q (List.mem_cons_of_mem _ hp) hpd (List.mem_cons_of_mem _ hq) hqd x y hx hy hxa hya (wst p hp hpd x hx hxw) (wst q hq hqd y hy hyw) heq
 . intro p hp hpd op hop hl hw;have hpd:=pd p hp hpd;have h1:=List.all_eq_true.1 hchk p (inchk p hp hpd op hop hl);unfold held at h1;rw[hop]at h1;have h1:NK P H' (cL tm o.dst u) op (ca (cL tm o.dst u) ops op)=true:=h1;rw[hw]at h1;have h1:aa (rd P H' (cL tm o.dst u) op) (BZ (cL tm o.dst u) op.dst) false=true:=h1;cases hr:rd P H' (cL tm o.dst u) op with
   | none=>rw[hr]at h1;cases h1
   | some v=>
     rw[hr]at h1;have h1:BZ (cL tm o.dst u) op.dst v=true:=h1;refine⟨v,rfl,λd hd=> ?_⟩;unfold BZ at h1;rw[hd]at h1;cases hg:(cL tm o.dst u).get (bits d)with
     | none=>simp only[hg]at h1;cases h1
     | some v2=>
       simp only[hg]at h1;rw[FT h1]
theorem fo.head {i:Nat}{o:Oper}{chk:List Nat}{rest:List (Nat×List Nat)}(hD:fo P φ H tm tmps ops done jw ((i,chk)::rest) π κ lo hi)(ho:ops[i]? = some o)
 (hE:ku (jE ops) i o=false) (hn:∀q l,π=q::l->q∉done):∃l,π=i::l:=by
 obtain⟨o',ho',hni,hrdy,_,hpl⟩:=iI hD.FV;rw[ho]at ho';cases ho';obtain⟨_,hrest,_,_⟩:=hpl hE;have hi:=hD.todo i (Array.getElem?_eq_some_iff.1 ho).1 hni;cases π with
 | nil=>cases hi
 | cons q l=>
   refine⟨l,?_⟩;have hq:=hn q l rfl;obtain⟨⟨oq,hoq,hdeps⟩,_,_⟩:=hD.KD;have hqsz:=(Array.getElem?_eq_some_iff.1 hoq).1;have hqr:eC ops done oq=true:=dI.2 λe he hb=>by
    have h1:=hdeps e he hb;have h2:e.on<ops.size:=by
     have h3:=List.all_eq_true.1 hD.ac q (List.mem_range.2 hqsz);rw[hoq]at h3;have h4:=List.all_eq_true.1 h3 e (by simpa using he);simp only[hb,Bool.not_true,Bool.false_or]at h4;have:=eN h4;omega
    by_cases h5:e.on∈done
    . exact h5
    . exact absurd (hD.todo e.on h2 h5) h1
   rcases mg _ _ _ hD.FV q hqsz with h | ⟨c,h⟩
   . exact absurd h hq
   . rcases List.mem_cons.1 h with h | h
     . cases h;rfl
     . have:=hrest _ h oq hoq;rw[hqr]at this;cases this
theorem fo.last (hD:fo P φ H tm tmps ops done jw [] π κ lo hi)(hn:∀q l,π=q::l->q∉done):π=[]:=by
 cases π with
 | nil=>rfl
 | cons q l=>
   obtain⟨⟨oq,hoq,_⟩,_,_⟩:=hD.KD;rcases mg _ _ _ hD.FV q (Array.getElem?_eq_some_iff.1 hoq).1 with h | ⟨c,h⟩
   . exact absurd h (hn q l rfl)
   . cases h
theorem AJ {pl:List (Nat×List Nat)}(h:u5 ops=some pl):tx ops=true/\acyclic ops=true/\gq ops (jE ops) [] [] pl=true:=by
 unfold u5 at h;split at h
 . cases h
 . split at h
   . rename_i hc;cases h;simp only[Bool.and_eq_true]at hc;exact⟨hc.1.1.1,hc.1.1.2,hc.2⟩
   . cases h
theorem fo.start {pl:List (Nat×List Nat)}(h:u5 ops=some pl)(t:Nat)(htr:yR φ (λ_=>False) tm tmps)(lo hi:Nat):
 fo P φ H tm tmps ops [] [] pl (Region.schedule true ops t) id lo hi/\kF P H tm ops [] (Region.schedule true ops t):=by
 obtain⟨h1,h2,h3⟩:=AJ h;obtain⟨h4,h5⟩:=FU ops h2 t;refine⟨⟨h1,h2,h3,h4,λi hi _=>h5 i hi,λi hi o ho=>absurd (h5 i (Array.getElem?_eq_some_iff.1 ho).1) hi,λi hi=>absurd hi List.not_mem_nil,λt v hv=>(htr t v hv).imp False.elim id,
  λi o d _ _ hi=>absurd hi List.not_mem_nil,λp _ hp=>absurd hp List.not_mem_nil,λp _ hp=>absurd hp List.not_mem_nil,λp q _ hp=>absurd hp List.not_mem_nil,λp _ hp=>absurd hp List.not_mem_nil⟩,λp _ hp=>absurd hp List.not_mem_nil⟩
end
section
variable {P:Program}
def kindOf (kd:Bool):CallKind:=match kd with
 | true=> .deferred
 | false=> .normal
inductive NQ (P:Program)(φ:cO):List (FuncId×List Value)->List Deferred->Prop
 | nil:NQ P φ [] []
 | cons {d:FuncId×List Value} {d':Deferred} {l:List (FuncId×List Value)} {l':List Deferred} (h:Tu P φ d d') (hl:NQ P φ l l'):NQ P φ (d::l) (d'::l')
theorem NQ.mono {φ φ':cO}(hle:φ.le φ'){l:List (FuncId×List Value)}{l':List Deferred}(h:NQ P φ l l'):NQ P φ' l l':=by
 induction h with
 | nil=>exact .nil
 | cons h _ ih=>exact .cons (h.mono hle) ih
def cH (c:Cg)(ds:List Deferred):FB:=⟨c.fn,kindOf c.kd,ds⟩
def fW (m:Option Value):FrameMode:=match m with
 | none=> .returning
 | some v=> .panicking [{ v,recovered:=false }]
def yY:List Frame->List Frame
 | C::r=>(match C.mode with
   | .panicking ({ v,recovered:=false,goexit:=false }::older)=>{ C with mode:= .panicking ({ v,recovered:=true }::older) }::r
   | _=>C::r)
 | []=>[]
def eh (rc:Bool)(cs:List Frame):List Frame:=match rc with
 | true=>yY cs
 | false=>cs
def AK (φ:cO)(kd:Bool)(rp:Option Value)(rc:Bool)(cs0:List Frame):Prop:=kd=true->match rp with
 | some v=>rc=false/\∃C r v' older,cs0=C::r/\C.mode= .panicking ({ v:=v',recovered:=false,goexit:=false }::older)/\VR φ v v'
 | none=>∀F:Frame,F.kind= .deferred->tryRecover F (eh rc cs0)=none
theorem AK.mono {φ φ':cO}(hle:φ.le φ'){kd:Bool}{rp:Option Value}{rc:Bool}{cs0:List Frame}(h:AK φ kd rp rc cs0):AK φ' kd rp rc cs0:=λq=>by
 have:=h q;cases rp with
 | none=>exact this
 | some v=>
   obtain⟨a,C,r,v',older,b,c,d⟩:=this;exact⟨a,C,r,v',older,b,c,d.mono hle⟩
theorem AL {F:Frame}{cs:List Frame}(h:F.kind= .normal):tryRecover F cs=none:=by
 unfold tryRecover;rw[h]
theorem gX {F C:Frame}{cs:List Frame}(h:F.kind= .deferred):tryRecover F (C::cs)=(match C.mode with
 | .panicking ({ v,recovered:=false,goexit:=false }::older)=>some (v,{ C with mode:= .panicking ({ v,recovered:=true }::older) }::cs)
 | _=>none):=by
 conv=>lhs;unfold tryRecover
 rw[h];rfl
theorem G7 {F:Frame}{cs:List Frame}(h:F.kind= .deferred):tryRecover F (yY cs)=none:=by
 cases cs with
 | nil=>unfold tryRecover;rw[h];rfl
 | cons C r=>
   show tryRecover F (match C.mode with
   | .panicking ({ v,recovered:=false,goexit:=false }::older)=>{ C with mode:= .panicking ({ v,recovered:=true }::older) }::r
   | _=>C::r)=none
   split
   . rw[gX h]
   . rename_i hn;rw[gX h];split
     . rename_i v older q;exact absurd q (hn v older)
     . rfl
theorem FX {C:Frame}{r:List Frame}(h:∀l,C.mode ≠ .panicking l):yY (C::r)=C::r:=by
 show(match C.mode with
  | .panicking ({ v,recovered:=false,goexit:=false }::older)=>{ C with mode:= .panicking ({ v,recovered:=true }::older) }::r
  | _=>C::r)=C::r
 split
 . rename_i q;exact absurd q (h _)
 . rfl
theorem yZ {C:Frame}{r:List Frame}(rc:Bool)(h:∀l,C.mode ≠ .panicking l):eh rc (C::r)=C::r:=by
 cases rc
 . rfl
 . exact FX h
def Ty (P:Program)(φ:cO)(o:Out)(fr:Frame)(w:World):Prop:=match o with
 | .ret v=>∃v',VR φ v v'/\fr.going P w (.returned v')
 | .gj v=>∃v',VR φ v v'/\fr.going P w (.panicked [{ v:=v',recovered:=false }])
variable {W w w' w1:World}{f fn:FuncId}{cs cs0:List Frame}{r:Rt}{fr fr' fr1:Frame}{φ φ' φ1:cO}{H H' H1:T OB}{nx nx' aE nt lo hi:Nat}{tm:T Value}{tmps:Array Value}{ops:Array Oper}
 {todo k:List Item} {c:Cg} {ds:List Deferred} {kd:Bool} {O:bz->Option Rt}
def dq (P:Program)(W:World)(kd:Bool)(fn:FuncId)(lo:Nat)(cs0:List Frame)(rc:Bool)(φ:cO)(H:T OB)(r:Rt)(fr:Frame)(w:World):Prop:=
 ∃φ' w' frl,Steps P (lone fr (eh rc cs0) w) (lone frl (eh r.rc cs0) w')/\φ.le φ'/\HR P W φ' (hp r.H) w'/\φ'.length=r.nx/\(∀k,k<lo->φ[k]? = some none->φ'[k]? = some none/\hp r.H k=hp H k)/\
  frl.kind=kindOf kd/\frl.fn=fn/\Ty P φ' r.o frl w'
theorem dq.steps {rc rc1:Bool}(hs:Steps P (lone fr (eh rc cs0) w) (lone fr1 (eh rc1 cs0) w1))(hle:φ.le φ1)(hk:∀k,k<lo->φ[k]? = some none->φ1[k]? = some none/\hp H1 k=hp H k)
 (h:dq P W kd fn lo cs0 rc1 φ1 H1 r fr1 w1):dq P W kd fn lo cs0 rc φ H r fr w:=by
 obtain⟨φ',w',frl,h1,h2,h3,h4,h5,h6,h7,h8⟩:=h;exact⟨φ',w',frl,hs.trans h1,cO.le_trans hle h2,h3,h4,λk hk' q=>⟨(h5 k hk' (hk k hk' q).1).1,(h5 k hk' (hk k hk' q).1).2.trans (hk k hk' q).2⟩,h6,h7,h8⟩
theorem dq.step1 {rc:Bool}(hs:Steps P (lone fr (eh rc cs0) w) (lone fr1 (eh rc cs0) w))(h:dq P W kd fn lo cs0 rc φ H r fr1 w):dq P W kd fn lo cs0 rc φ H r fr w:=
 h.steps hs φ.le_refl λ_ _ q=>⟨q,rfl⟩
theorem pJ {a:Rt}(h:(Q.ret a).run O=some r):a=r:=by cases h;rfl
theorem gE (h:Q.bad.run O=some r):False:=by cases h
theorem mX {q:bz}{g:Rt->Q}(h:(Q.ask q g).run O=some r):∃a,O q=some a/\(g a).run O=some r:=by
 have h:aa (O q) (λa=>(g a).run O) none=some r:=h;exact aM h
theorem G8 {q:bz}(h:(Q.jump q).run O=some r):O q=some r:=h
theorem bP {α:Type}{x:Option α}{g:α->Q}(h:(aa x g .bad).run O=some r):∃a,x=some a/\(g a).run O=some r:=by
 cases x with
 | none=>cases h
 | some a=>exact⟨a,rfl,h⟩
theorem lk {b:Bool}{x:Q}(h:(bif b then x else Q.bad).run O=some r):b=true/\x.run O=some r:=by
 cases b
 . cases h
 . exact⟨rfl,h⟩
theorem eo {b:Bool}{x y:Q}(h:(bK b x y).run O=some r):(b=true/\x.run O=some r)\/(b=false/\y.run O=some r):=by
 cases b
 . exact .inr ⟨rfl,h⟩
 . exact .inl ⟨rfl,h⟩
theorem dj {dst:Option Tmp}{v:Value}{g:T Value->Q}(h:(jD nt tm dst v g .bad).run O=some r):(∀d,dst=some d->d<nt)/\(g (cL tm dst v)).run O=some r:=by
 cases dst with
 | none=>exact⟨λd hd=>(by cases hd),h⟩
 | some d=>
   obtain⟨h1,h2⟩:=lk (show(bif Nat.blt d nt then dt (bits d) tm (some v) g else Q.bad).run O=some r from h);rw[bl]at h2;exact⟨λd' hd=>by cases hd;exact eN h1,h2⟩
theorem mY {t:Bool}{dst:Option Tmp}{v:Value}{g:T Value->Q}(h:(FE P t nt tm dst v g).run O=some r):(∀d,dst=some d->d<nt)/\(g (cL tm dst v)).run O=some r:=by
 unfold FE at h;rcases eo h with⟨_,h1⟩ | ⟨_,h1⟩
 . unfold aB at h1;split at h1
   . exact dj h1
   . cases h1
 . exact dj h1
theorem pK {e:eL}{g:Value->T OB->Nat->Q}(h:(ao e g).run O=some r):∃v H nx,e= .val v H nx/\(g v H nx).run O=some r:=by
 cases e with
 | val v H nx=>exact⟨v,H,nx,rfl,h⟩
 | _=>cases h
theorem G9 {x:Option Value}{g:Nat->Nat->Q}(h:(KK x g).run O=some r):∃b off,x=some (.pointer (some ⟨b,off,none⟩))/\(g b off).run O=some r:=by
 unfold KK at h;split at h
 . exact⟨_,_,rfl,h⟩
 . cases h
theorem AM {x:Option OB}{g:Nat->T Value->TypeId->Q}(h:(l9 x g).run O=some r):∃n t e,x=some (.cells n t e)/\(g n t e).run O=some r:=by
 unfold l9 at h;split at h
 . exact⟨_,_,_,rfl,h⟩
 . cases h
theorem ji {α:Type}(v:α):∀(bs:List Bool) (t:T α),t.get bs=some v->set t bs (some v)=t
 | [],.leaf,h=>by cases h
 | [],.node x l r,h=>by have h:x=some v:=h;subst h;rfl
 | b::bs,.leaf,h=>by rw[jb]at h;cases h
 | false::bs,.node x l r,h=>by rw[hZ,ji v bs l h]
 | true::bs,.node x l r,h=>by rw[iQ,ji v bs r h]
theorem um {o:Oper}{yes no:T Value->Q}(h:(u6 tm ops o.guard yes no).run O=some r):∃b,ca tm ops o=some b/\(b=true->(yes tm).run O=some r)/\(b=false->(no tm).run O=some r):=by
 unfold ca;unfold u6 at h;split at h
 . rename_i hg;exact⟨true,(by first | rfl | rw[hg]),λ_=>h,λq=>(by cases q)⟩
 . rename_i p hg;obtain⟨d,hd,h1⟩:=bP h;show ∃b,aa (ja ops p.1) (λd=>kr tm d p.2) none=some b/\_;rw[hd];show ∃b,kr tm d p.2=some b/\_;unfold kr;split at h1
   . rename_i x hx;rw[bl,bl,bl,bl]at h1;refine⟨_,rfl,λq=> ?_,λq=> ?_⟩
     . have q:x=p.2:=by simpa using q
       subst q;rcases eo h1 with⟨h2,h3⟩ | ⟨h2,h3⟩
       . rw[h2]at h3 hx;have h3:(yes (set tm (bits d) (some (.bool true)))).run O=some r:=h3;rwa[ji _ _ _ hx]at h3
       . rw[h2]at h3 hx;have h3:(yes (set tm (bits d) (some (.bool false)))).run O=some r:=h3;rwa[ji _ _ _ hx]at h3
     . have q:x≠p.2:=by simpa using q
       rcases eo h1 with⟨h2,h3⟩ | ⟨h2,h3⟩
       . have:x=false:=by cases x<;>simp_all
         subst this;have h3:(no (set tm (bits d) (some (.bool false)))).run O=some r:=h3;rwa[ji _ _ _ hx]at h3
       . have:x=true:=by cases x<;>simp_all
         subst this;have h3:(no (set tm (bits d) (some (.bool true)))).run O=some r:=h3;rwa[ji _ _ _ hx]at h3
   . rename_i x hx;exact⟨false,rfl,λq=>(by cases q),λ_=>h1⟩
   . cases h1
theorem rS (hle:φ.le φ')(hk:fg φ φ' (hp H) (hp H')):φ.length<=φ'.length:=by
 rcases Nat.eq_zero_or_pos φ.length with h | h
 . omega
 . have hlt:φ.length-1<φ.length:=by omega
   have hq:=List.getElem?_eq_getElem hlt;cases hx:φ[φ.length-1]with
   | none=>rw[hx]at hq;have:=(List.getElem?_eq_some_iff.1 (hk _ hq).1).1;omega
   | some e=>rw[hx]at hq;have:=(List.getElem?_eq_some_iff.1 (hle _ _ hq)).1;omega
theorem HR.VY {g:Nat->Option OB}(hH:HR P W φ g w){b n:Nat}{t:T Value}{e:gR}(hg:g b=some .dead)(hb:φ[b]? = some (some e))(hob:yD P W φ (.ro n t) e w):HR P W φ (nZ g b (some (.ro n t))) w where
 below:=hH.below
 gl:=hH.gl
 oT:=λk o h=>by
  by_cases hk:k=b
  . subst hk;exact hH.oT k _ hg
  . rw[bg g hk]at h;exact hH.oT k o h
 nS:=hH.nS
 inj:=λk k' oa oa' x x' h h' hk hk' hla hla' hr=>by
  have hx:∀j oj,nZ g b (some (.ro n t)) j=some oj->live oj=true->g j=some oj:=by
   intro j oj h hl'
   by_cases hj:j=b
   . subst hj;rw[cZ]at h;cases h;cases hl'
   . rwa[bg g hj]at h
  exact hH.inj k k' _ _ x x' h h' (hx k _ hk hla) (hx k' _ hk' hla') hla hla' hr
 obj:=λk oa x hk h=>by
  by_cases hkb:k=b
  . subst hkb;rw[cZ]at hk;cases hk;rw[hb]at h;cases h;exact hob
  . rw[bg g hkb]at hk;exact hH.obj k oa x hk h
 km:=hH.km
 rq:=λk k' x x' c o h hf h' hk' hl'=>by
  by_cases hkb:k'=b
  . subst hkb;rw[cZ]at hk';cases hk';cases hl'
  . rw[bg g hkb]at hk';exact hH.rq k k' x x' c o h hf h' hk' hl'
theorem HR.ghost {g:Nat->Option OB}(hH:HR P W φ g w){e:gR}{c:Array Value}{el:TypeId}{fz:Nat×Nat}(hf:e.fz=some c)(hr:w.heap[e.r]? = some (.cells c el fz))
 (hno:∀(k:Nat) (x:gR) (ob:OB),φ[k]? = some (some x)->g k=some ob->live ob=true->x.r≠e.r):HR P W (φ++[some e]) g w where
 below:=hH.below
 gl:=hH.KU (cV φ _)
 oT:=λk o h=>by have:=hH.oT k o h;simp;omega
 nS:=λk x h=>by
  rcases bU h with h | ⟨_,h⟩
  . exact hH.nS k x h
  . cases h;exact(Array.getElem?_eq_some_iff.1 hr).1
 inj:=λk k' o1 o2 x x' h h' hg hg' hl hl' hrr=>by
  have l1:=hH.oT k _ hg;have l2:=hH.oT k' _ hg';rcases bU h with h0 | ⟨hk,_⟩
  . rcases bU h' with h1 | ⟨hk',_⟩
    . exact hH.inj k k' o1 o2 x x' h0 h1 hg hg' hl hl' hrr
    . omega
  . omega
 obj:=λk oa x hg h=>by
  have l1:=hH.oT k _ hg;rcases bU h with h0 | ⟨hk,_⟩
  . exact(hH.obj k oa x hg h0).mono (cV φ _)
  . omega
 km:=λk x c' h hf'=>by
  rcases bU h with h1 | ⟨_,hx⟩
  . exact hH.km k x c' h1 hf'
  . cases hx;rw[hf]at hf';cases hf';exact⟨el,fz,hr⟩
 rq:=λk k' x x' c' o h hf' h' hg hl=>by
  have l2:=hH.oT k' _ hg;rcases bU h' with h2 | ⟨hk',_⟩
  . rcases bU h with h1 | ⟨_,hx⟩
    . exact hH.rq k k' x x' c' o h1 hf' h2 hg hl
    . cases hx;exact hno k' x' o h2 hg hl
  . omega
theorem HR.grown {g:Nat->Option OB}(hH:HR P W φ g w)(hb:Below w.heap.size w w'):HR P W φ g w':=by
 have hr:∀(k:Nat) (e:gR),φ[k]? = some (some e)->w'.heap[e.r]? = w.heap[e.r]? := λk e h=>hb.block e.r (hH.nS k e h);exact {
  below:=hH.below.trans (hb.mono hH.below.size)
  gl:=hH.gl
  oT:=hH.oT
  nS:=λk e h=>Nat.lt_of_lt_of_le (hH.nS k e h) hb.size
  inj:=hH.inj
  obj:=λk ob e hg h=>(hH.obj k ob e hg h).heap λ_=>hr k e h
  km:=λk e c h hf=>by obtain⟨el,fz,q⟩:=hH.km k e c h hf;exact⟨el,fz,by rw[hr k e h];exact q⟩
  rq:=hH.rq }
theorem oZ {a:Bool}{s:Nat}:∀(n:Nat) (l es:List Value),chunk a s n l=some es->(a=false->s=1)->(es.all λx=>bK a true (aA x))=true->
 es.length=n/\l.length=n*s/\(∀x∈es,x.cells.toList.length=s)/\∀(i j:Nat) (x v:Value),es[i]? = some x->x.cells.toList[j]? = some v->l[i*s+j]? = some v
 | 0,l,es,h,_,_=>by
   obtain⟨h1,h2⟩:=aY (show(bif l.isEmpty then some []else none)=some es from h);cases h2;exact⟨rfl,by rw[List.isEmpty_iff.1 h1];simp,λx hx=>by simp at hx,λi j x v hi=>by simp at hi⟩
 | n+1,l,es,h,hs,hone=>by
   obtain⟨h1,h2⟩:=aY (show(bif Nat.ble s l.length then aa (chunk a s n (l.drop s)) (λr=>bK a (some (.agg ⟨l.take s⟩::r)) (aa l.head? (λv=>some (v::r)) none)) none else none)=some es from h);have h1:=c_ h1;obtain⟨es',h3,h4⟩:=aM h2;have key:∃x,es=x::es'/\x.cells.toList=l.take s:=by
    cases a with
    | true=>have h4:some (Value.agg ⟨l.take s⟩::es')=some es:=h4;cases h4;exact⟨_,rfl,rfl⟩
    | false=>
      have hs:=hs rfl;subst hs;have h4:aa l.head? (λv=>some (v::es')) none=some es:=h4;cases l with
      | nil=>simp at h1
      | cons v l=>
        have h4:some (v::es')=some es:=h4;cases h4;refine⟨v,rfl,?_⟩;have hv:aA v=true:=by
         have:=List.all_eq_true.1 hone v (by simp);exact this
        cases v<;>first | rfl | cases hv
   obtain⟨x,rfl,hx⟩:=key;have hone':(es'.all λx=>bK a true (aA x))=true:=by simp only[List.all_cons,Bool.and_eq_true]at hone;exact hone.2
   obtain⟨h5,h6,h7,h8⟩:=oZ n _ _ h3 hs hone';refine⟨by simp[h5],?_,λy hy=> ?_,λi j y v hi hj=> ?_⟩
   . rw[List.length_drop]at h6;rw[Nat.succ_mul];omega
   . rcases List.mem_cons.1 hy with rfl | hy
     . rw[hx];simp;omega
     . exact h7 y hy
   . cases i with
     | zero=>
       simp at hi;subst hi;rw[hx,List.getElem?_take]at hj;split at hj
       . simpa using hj
       . cases hj
     | succ i=>
       have hi:es'[i]? = some y:=by simpa using hi
       have:=h8 i j y v hi hj;rw[List.getElem?_drop]at this;rw[Nat.succ_mul,<- this];congr 1;omega
def fX (P:Program)(W:World)(φ:cO)(H:T OB)(nx:Nat)(w:World)(φ':cO)(H':T OB)(nx':Nat):Prop:=
 φ.le φ'/\HR P W φ' (hp H') w/\φ'.length=nx'/\fg φ φ' (hp H) (hp H')/\nx<=nx'
theorem fX.refl (hH:HR P W φ (hp H) w)(cg:φ.length=nx):fX P W φ H nx w φ H nx:=⟨φ.le_refl,hH,cg,fg.refl _ _,Nat.le_refl _⟩
theorem fX.trans {φ'':cO}{H'':T OB}{nx'':Nat}(h:fX P W φ H nx w φ' H' nx')(h':fX P W φ' H' nx' w φ'' H'' nx''):fX P W φ H nx w φ'' H'' nx'':=
 ⟨cO.le_trans h.1 h'.1,h'.2.1,h'.2.2.1,h.2.2.2.1.trans h'.2.2.2.1,Nat.le_trans h.2.2.2.2 h'.2.2.2.2⟩
theorem jL (hH:HR P W φ (hp H) w)(cg:φ.length=nx){t:TypeId}{v v':Value}(hv:VR φ v v'){g:Value->T OB->Nat->Q}(h:(ff P t v H nx g).run O=some r):
 ∃φ' u H' nx',(g u H' nx').run O=some r/\VR φ' u v'/\fX P W φ H nx w φ' H' nx':=by
 unfold ff at h;split at h
 case h_3=>exact⟨φ,v,H,nx,h,hv,.refl hH cg⟩
 case h_2=>
  rename_i e hu;split at h
  . rename_i b;obtain⟨x,hx,h1⟩:=bP h;rw[bl,bm]at h1;obtain⟨en,hb,_,rfl⟩:=hv.eE;unfold Tf at hx;obtain⟨m,tr,el,hg,h2⟩:=ri hx;obtain⟨s,hs,h3⟩:=aM h2;obtain⟨a,ha,h4⟩:=aM h3;obtain⟨h5,h6⟩:=aY h4;obtain⟨l,hl,h7⟩:=aM h6;have hms:=beq_eq h5;have key:∃u,x=ak u/\u.cells.toList=l:=by
     cases a with
     | true=>
       have h7:some (ak (.agg ⟨l⟩))=some x:=h7;cases h7;exact⟨_,rfl,rfl⟩
     | false=>
       obtain⟨u,hu',h8⟩:=aM (show aa l.head? (λv=>bif Nat.beq l.length 1&&aA v then some (ak v)else none) none=some x from h7);obtain⟨h9,h10⟩:=aY h8;cases h10;simp only[Bool.and_eq_true]at h9;have hl1:=beq_eq h9.1;refine⟨u,rfl,?_⟩;have hcell:u.cells.toList=[u]:=by cases u<;>first | rfl | cases h9.2
       rw[hcell];cases l with
       | nil=>cases hu'
       | cons y l=>
         cases hu';cases l with
         | nil=>rfl
         | cons _ _=>simp at hl1
    obtain⟨u,rfl,hul⟩:=key;have hg':hp H b=some (.cells m tr el):=hg;obtain⟨c,el',hrow,hrsz,hrn,rE⟩:=hH.cells hg' hb;obtain⟨q1,q2⟩:=l_ rE hl (by omega) (by omega);have hkill:HR P W φ (hp (set H (bits b) (some .dead))) w:=by rw[bN];exact hH.kill hg' hb
    have hgh:=hkill.ghost (e:=⟨en.r,en.sz,en.es,some c⟩) rfl hrow (λk x ob hk hgk hlk hr=>by
     rw[bN]at hgk
     by_cases hkb:k=b
     . subst hkb;rw[cZ]at hgk;cases hgk;cases hlk
     . rw[bg _ hkb]at hgk;exact hkb (hH.inj k b _ _ x en hk hb hgk hg' hlk rfl hr))
    refine⟨_,_,_,_,h1,?_,cV φ _,hgh,by simp[cg],?_,by omega⟩
    . refine VR.ep (e:=⟨en.r,en.sz,en.es,some c⟩) (c:=c) (eO φ _) rfl (by rw[hul,q2];omega) (λj a b' hja hjb=> ?_);rw[hul]at hja;have hjl:=(List.getElem?_eq_some_iff.1 hja).1;refine VR.mono (cV φ _) (q1.at_ j a b' hja ?_);rw[List.drop_zero,List.getElem?_take,if_pos (by omega),Array.getElem?_toList];rw[Nat.zero_add]at hjb;exact hjb
    . intro k hk;refine⟨?_,?_⟩
      . rw[List.getElem?_append_left (List.getElem?_eq_some_iff.1 hk).1];exact hk
      . rw[bN,bg];intro q;subst q;rw[hb]at hk;cases hk
  . exact⟨φ,v,H,nx,h,hv,.refl hH cg⟩
 rename_i e hu;split at h
 . rename_i b off n cp;obtain⟨hcp,h⟩:=lk h;simp only[Bool.or_eq_true]at hcp;obtain⟨x,hx,h1⟩:=bP h;rw[bl,bm]at h1;obtain⟨en,c',hb,_,rfl,hcap⟩:=hv.eY;unfold KH at hx;obtain⟨m,tr,el,hg,h2⟩:=ri hx;obtain⟨s,hs,h3⟩:=aM h2;obtain⟨a,ha,h4⟩:=aM h3;obtain⟨h5,h6⟩:=aY h4;obtain⟨l,hl,h7⟩:=aM h6;obtain⟨es,hes,h8⟩:=aM h7;obtain⟨h9,h10⟩:=aY h8;cases h10;simp only[Bool.and_eq_true,Bool.or_eq_true]at h5;have hle:=c_ h5.1.1;have hs1:a=false->s=1:=λq=>by
    rcases h5.2 with q' | q'
    . rw[q]at q';cases q'
    . exact beq_eq q'
   obtain⟨g1,g2,g3,g4⟩:=oZ n l es hes hs1 h9;have hg':hp H b=some (.cells m tr el):=hg;obtain⟨c,el',hrow,hrsz,hrn,rE⟩:=hH.cells hg' hb;obtain⟨q1,q2⟩:=l_ rE hl hle (by omega);have hcl:n<=c':=by
    rcases hcap with⟨q,rfl⟩ | ⟨_,q,_⟩
    . rcases hcp with h' | h'
      . exact absurd (beq_eq h') q
      . exact c_ h'
    . exact q
   have hkill:HR P W φ (hp (set H (bits b) (some .dead))) w:=by rw[bN];exact hH.kill hg' hb
   have hgh:=hkill.ghost (e:=⟨en.r,en.sz,en.es,some c⟩) rfl hrow (λk x ob hk hgk hlk hr=>by
    rw[bN]at hgk
    by_cases hkb:k=b
    . subst hkb;rw[cZ]at hgk;cases hgk;cases hlk
    . rw[bg _ hkb]at hgk;exact hkb (hH.inj k b _ _ x en hk hb hgk hg' hlk rfl hr))
   have hro:=hgh.VY (b:=b) (n:=m) (t:=tr) (e:=en) (by rw[bN,cZ]) (by rw[List.getElem?_append_left (List.getElem?_eq_some_iff.1 hb).1];exact hb) (.inr ⟨_,_,c,eO φ _,rfl,rfl,by omega,rE.mono (cV φ _)⟩);rw[bN,mQ,<- bN]at hro;rw[show VQ (H.get (bits b))= .ro m tr by rw[hg];rfl]at h1;refine⟨_,_,_,_,h1,?_,cV φ _,hro,by simp[cg],?_,by omega⟩
   . rw[<- g1];have hlen:es.length*s=n*s:=by rw[g1]
     refine VR.row (e:=⟨en.r,en.sz,en.es,some c⟩) (c:=c) (eO φ _) rfl g3 (λ_=> ?_) (by omega) (λi j x u u' hi hj hc=> ?_)
     . rw[hlen];omega
     . have h11:=g4 i j x u hi hj;have hlt:=(List.getElem?_eq_some_iff.1 h11).1;refine VR.mono (cV φ _) (q1.at_ (i*s+j) u u' h11 ?_);rw[List.getElem?_take,if_pos (by omega),List.getElem?_drop,Array.getElem?_toList,<- Nat.add_assoc];exact hc
   . intro k hk;refine⟨?_,?_⟩
     . rw[List.getElem?_append_left (List.getElem?_eq_some_iff.1 hk).1];exact hk
     . rw[bN,bg];intro q;subst q;rw[hb]at hk;cases hk
 . rename_i n c;obtain⟨h1,h2⟩:=lk h;simp only[Bool.and_eq_true]at h1;obtain⟨s,hs,h3⟩:=bP h2;have e1:=beq_eq h1.1;have e2:=beq_eq h1.2;subst e1 e2;have:=hv.aI rfl;subst this;exact⟨φ,_,H,nx,h3,.tz s,.refl hH cg⟩
 . exact⟨φ,v,H,nx,h,hv,.refl hH cg⟩
theorem rT:∀(fs:List Field) (cs cs':List Value) (φ:cO) (H:T OB) (nx:Nat),HR P W φ (hp H) w->φ.length=nx->LR φ cs cs'->∀{g:List Value->T OB->Nat->Q},(KI P fs cs H nx g).run O=some r->
 ∃φ' us H' nx',(g us H' nx').run O=some r/\LR φ' us cs'/\fX P W φ H nx w φ' H' nx'
 | [],cs,cs',φ,H,nx,hH,cg,hl,g,h=>⟨φ,cs,H,nx,h,hl,.refl hH cg⟩
 | f::fs,cs,cs',φ,H,nx,hH,cg,hl,g,h=>by
   obtain⟨v,hv,h1⟩:=bP (show(aa cs[f.offset]? (λv=>ff P f.type v H nx λv H nx=>KI P fs (cs.set f.offset v) H nx g) .bad).run O=some r from h);obtain⟨v',hv',hvr⟩:=hl.get hv;obtain⟨φ1,u,H1,aE,h2,h3,h4⟩:=jL hH cg hvr h1;have hl1:LR φ1 (cs.set f.offset u) cs':=by
    have:=(hl.mono h4.1).set f.offset h3
    have e:cs'.set f.offset v'=cs':=by
     refine List.ext_getElem? λi=> ?_;rw[List.getElem?_set]
     by_cases hi:f.offset=i
     . subst hi;rw[if_pos rfl,hv',if_pos (List.getElem?_eq_some_iff.1 hv').1]
     . rw[if_neg hi]
    rw[e]at this;exact this
   obtain⟨φ2,us,H2,nx2,h5,h6,h7⟩:=rT fs _ cs' φ1 H1 aE h4.2.1 h4.2.2.1 hl1 h2;exact⟨φ2,us,H2,nx2,h5,h6,h4.trans h7⟩
theorem AN (hH:HR P W φ (hp H) w)(cg:φ.length=nx){t:TypeId}{v v':Value}(hv:VR φ v v'){g:Value->T OB->Nat->Q}(h:(eg P t v H nx g).run O=some r):
 ∃φ' u H' nx',(g u H' nx').run O=some r/\VR φ' u v'/\fX P W φ H nx w φ' H' nx':=by
 unfold eg at h;split at h
 . split at h
   . obtain⟨c',rfl,h1⟩:=hv.lh;obtain⟨φ',us,H',nx',h2,h3,h4⟩:=rT _ _ _ _ _ _ hH cg h1 h;exact⟨φ',_,H',nx',h2,h3.agg,h4⟩
   . cases h
 . exact jL hH cg hv h
def G_ (P:Program)(W:World)(O:bz->Option Rt)(w:World)(one:Value->T OB->Nat->(Value->T OB->Nat->Q)->Q):Prop:=
 ∀(v v':Value) (φ:cO) (H:T OB) (nx:Nat) (r:Rt),HR P W φ (hp H) w->φ.length=nx->VR φ v v'->∀{g:Value->T OB->Nat->Q},(one v H nx g).run O=some r->
  ∃φ' u H' nx',(g u H' nx').run O=some r/\VR φ' u v'/\fX P W φ H nx w φ' H' nx'
theorem mh {one:TypeId->Value->T OB->Nat->(Value->T OB->Nat->Q)->Q}(ho:∀t,G_ P W O w (one t)):∀(l:List (Nat×TypeId)) (cs cs':List Value) (φ:cO) (H:T OB) (nx:Nat),HR P W φ (hp H) w->φ.length=nx->LR φ cs cs'->∀{g:List Value->T OB->Nat->Q},(FA one l cs H nx g).run O=some r->
 ∃φ' us H' nx',(g us H' nx').run O=some r/\LR φ' us cs'/\us.length=cs.length/\fX P W φ H nx w φ' H' nx'
 | [],cs,cs',φ,H,nx,hH,cg,hl,g,h=>⟨φ,cs,H,nx,h,hl,rfl,.refl hH cg⟩
 | p::l,cs,cs',φ,H,nx,hH,cg,hl,g,h=>by
   obtain⟨v,hv,h1⟩:=bP (show(aa cs[p.1]? (λv=>one p.2 v H nx λv H nx=>FA one l (cs.set p.1 v) H nx g) .bad).run O=some r from h);obtain⟨v',hv',hvr⟩:=hl.get hv;obtain⟨φ1,u,H1,aE,h2,h3,h4⟩:=ho p.2 v v' φ H nx r hH cg hvr h1;have hl1:LR φ1 (cs.set p.1 u) cs':=by
    have:=(hl.mono h4.1).set p.1 h3
    have e:cs'.set p.1 v'=cs':=by
     refine List.ext_getElem? λi=> ?_;rw[List.getElem?_set]
     by_cases hi:p.1=i
     . subst hi;rw[if_pos rfl,hv',if_pos (List.getElem?_eq_some_iff.1 hv').1]
     . rw[if_neg hi]
    rw[e]at this;exact this
   obtain⟨φ2,us,H2,nx2,h5,h6,h8,h7⟩:=mh ho l _ cs' φ1 H1 aE h4.2.1 h4.2.2.1 hl1 h2;exact⟨φ2,us,H2,nx2,h5,h6,by rw[h8,List.length_set],h4.trans h7⟩
def XW (φ:cO)(s:Nat)(c:Array Value)(o:Nat)(es:List Value):Prop:=
 (∀x∈es,x.cells.toList.length=s)/\∀(i j:Nat) (x v v':Value),es[i]? = some x->x.cells.toList[j]? = some v->c[o+i*s+j]? = some v'->VR φ v v'
theorem rU {one:TypeId->Value->T OB->Nat->(Value->T OB->Nat->Q)->Q}(ho:∀t,G_ P W O w (one t))(offs:List (Nat×TypeId)){s:Nat}{c:Array Value}:∀(es:List Value) (o:Nat) (φ:cO) (H:T OB) (nx:Nat),HR P W φ (hp H) w->φ.length=nx->XW φ s c o es->o+es.length*s<=c.size->
 ∀{g:List Value->T OB->Nat->Q},(kz (kx one offs) es H nx g).run O=some r->
 ∃φ' us H' nx',(g us H' nx').run O=some r/\XW φ' s c o us/\us.length=es.length/\fX P W φ H nx w φ' H' nx'
 | [],o,φ,H,nx,hH,cg,hl,hn,g,h=>⟨φ,[],H,nx,h,⟨λx hx=>by simp at hx,λi j x v v' hi=>by simp at hi⟩,rfl,.refl hH cg⟩
 | x::es,o,φ,H,nx,hH,cg,hl,hn,g,h=>by
   have h:(kx one offs x H nx λv H nx=>kz (kx one offs) es H nx λl H nx=>g (v::l) H nx).run O=some r:=h;have hxs:=hl.1 x (by simp);rw[List.length_cons,Nat.add_mul,Nat.one_mul]at hn;have step:∃φ1 u H1 aE,(kz (kx one offs) es H1 aE λl H nx=>g (u::l) H nx).run O=some r/\fX P W φ H nx w φ1 H1 aE/\u.cells.toList.length=s/\∀(j:Nat) (v v':Value),u.cells.toList[j]? = some v->c[o+j]? = some v'->VR φ1 v v':=by
    have hx0:∀(j:Nat) (v v':Value),x.cells.toList[j]? = some v->c[o+j]? = some v'->VR φ v v':=λj v v' hj hc=>hl.2 0 j x v v' rfl hj (by rw[Nat.zero_mul,Nat.add_zero];exact hc)
    by_cases hag:∃cs,x= .agg ⟨cs⟩
    . obtain⟨cs,rfl⟩:=hag;have hlen:((c.toList.drop o).take s).length=s:=by simp;omega
      have hcs:LR φ cs ((c.toList.drop o).take s):=⟨by rw[hlen];exact hxs,λj v v' hj hj'=>hx0 j v v' hj (by
       have hjl:=(List.getElem?_eq_some_iff.1 hj').1;rw[List.getElem?_take,if_pos (by omega),List.getElem?_drop,Array.getElem?_toList]at hj';exact hj')⟩
      obtain⟨φ1,us,H1,aE,h2,h3,h8,h4⟩:=mh ho offs cs _ φ H nx hH cg hcs h;refine⟨φ1,.agg ⟨us⟩,H1,aE,h2,h4,by rw[<- hxs];exact h8,λj v v' hj hc=>h3.at_ j v v' hj ?_⟩;have hjl:j<us.length:=(List.getElem?_eq_some_iff.1 hj).1;have hxs':cs.length=s:=hxs;rw[List.getElem?_take,if_pos (by omega),List.getElem?_drop,Array.getElem?_toList];exact hc
    . have e:kx one offs x H nx (λv H nx=>kz (kx one offs) es H nx λl H nx=>g (v::l) H nx)=kz (kx one offs) es H nx λl H nx=>g (x::l) H nx:=by
       cases x<;>first | rfl | exact absurd ⟨_,rfl⟩ hag
      rw[e]at h;exact⟨φ,x,H,nx,h,.refl hH cg,hxs,hx0⟩
   obtain⟨φ1,u,H1,aE,h2,h4,hu,hu'⟩:=step;obtain⟨φ2,us,H2,nx2,h5,h6,h8,h7⟩:=rU ho offs es (o+s) φ1 H1 aE h4.2.1 h4.2.2.1 ⟨λy hy=>hl.1 y (by simp[hy]),λi j y v v' hi hj hc=>(hl.2 (i+1) j y v v' hi hj (by rw[Nat.add_mul,Nat.one_mul];rw[<- hc];congr 1;omega)).mono h4.1⟩ (by omega) h2;refine⟨φ2,u::us,H2,nx2,h5,⟨λy hy=> ?_,λi j y v v' hi hj hc=> ?_⟩,by rw[List.length_cons,h8,List.length_cons],h4.trans h7⟩
   . rcases List.mem_cons.1 hy with rfl | hy
     . exact hu
     . exact h6.1 y hy
   . cases i with
     | zero=>
       cases hi;rw[Nat.zero_mul,Nat.add_zero]at hc;exact(hu' j v v' hj hc).mono h7.1
     | succ i=>
       refine h6.2 i j y v v' hi hj ?_;rw[Nat.add_mul,Nat.one_mul]at hc;rw[<- hc];congr 1;omega
theorem mi:∀(d:Nat) (t:TypeId),G_ P W O w (jG P d t)
 | 0,t=>λv v' φ H nx r hH cg hv g h=>jL hH cg hv h
 | d+1,t=>λv v' φ H nx r hH cg hv g h=>by
   obtain⟨φ1,u,H1,aE,h1,h2,h3⟩:=jL hH cg hv (show(ff P t v H nx λu H nx=>bif yq v then(match P.underlying t with | some (.slice e)=>gH u (λs es=>kz (kx (jG P d) (dR P 4 e)) es H nx λes H nx=>bif es.all λx=>Nat.beq x.cells.toList.length s then g (bn s es) H nx else .bad) .bad | _=>g u H nx)else g u H nx).run O=some r from h);cases hb:yq v with
   | false=>
     rw[hb]at h1;exact⟨φ1,u,H1,aE,h1,h2,h3⟩
   | true=>
     rw[hb,cond_true]at h1;split at h1
     . rename_i e _;obtain⟨s,es,rfl,h4⟩:∃s es,u=bn s es/\(kz (kx (jG P d) (dR P 4 e)) es H1 aE λes H nx=>bif es.all λx=>Nat.beq x.cells.toList.length s then g (bn s es) H nx else .bad).run O=some r:=by
        unfold gH at h1;split at h1
        . exact⟨_,_,rfl,h1⟩
        . cases h1
       rcases h2.iF with⟨rfl,_⟩ | ⟨k,o,c',en,c,g1,g2,g3,g4,g5,g6,rfl⟩
       . exact⟨φ1,_,H1,aE,h4,h2,h3⟩
       . cases es with
         | nil=>exact⟨φ1,_,H1,aE,h4,h2,h3⟩
         | cons x es=>
           obtain⟨φ2,us,H2,nx2,k1,k2,k3,k4⟩:=rU (λt=>mi d t) _ (x::es) o φ1 H1 aE h3.2.1 h3.2.2.1 ⟨g3,g6⟩ (g4 (by simp)) h4;obtain⟨k5,k6⟩:=lk k1;refine⟨φ2,_,H2,nx2,k6,?_,h3.trans k4⟩;rw[<- k3];exact VR.row (k4.1 _ _ g1) g2 k2.1 (λ_=>by rw[k3];exact g4 (by simp)) (by rw[k3];exact g5) k2.2
     . exact⟨φ1,u,H1,aE,h1,h2,h3⟩
theorem AO (hH:HR P W φ (hp H) w)(cg:φ.length=nx){t:TypeId}{v v':Value}(hv:VR φ v v'){g:Value->T OB->Nat->Q}(h:(aX P t v H nx g).run O=some r):
 ∃φ' u H' nx',(g u H' nx').run O=some r/\VR φ' u v'/\fX P W φ H nx w φ' H' nx':=by
 unfold aX at h;cases hb:l8 v with
 | false=>
   rw[hb]at h;exact mi 100000 t v v' φ H nx r hH cg hv h
 | true=>
   rw[hb,cond_true]at h;cases v<;>first | cases hb | skip
   rename_i cs;obtain⟨cs⟩:=cs;obtain⟨c',rfl,h1⟩:=hv.lh;obtain⟨φ',us,H',nx',h2,h3,_,h4⟩:=mh (λt=>mi 100000 t) _ _ _ _ _ _ hH cg h1 h;exact⟨φ',_,H',nx',h2,h3.agg,h4⟩
theorem mj (ts:Array TypeId):∀(l:List Nat) (vs vs':List Value) (φ:cO) (H:T OB) (nx:Nat),HR P W φ (hp H) w->φ.length=nx->LR φ vs vs'->∀{g:List Value->T OB->Nat->Q},(yr P ts l vs H nx g).run O=some r->
 ∃φ' us H' nx',(g us H' nx').run O=some r/\LR φ' us vs'/\fX P W φ H nx w φ' H' nx'
 | [],cs,cs',φ,H,nx,hH,cg,hl,g,h=>⟨φ,cs,H,nx,h,hl,.refl hH cg⟩
 | i::l,cs,cs',φ,H,nx,hH,cg,hl,g,h=>by
   have go:∀(m:Nat) (t:TypeId) (v v':Value),cs[m]? = some v->cs'[m]? = some v'->(∃φ1 u H1 aE,(yr P ts l (cs.set m u) H1 aE g).run O=some r/\VR φ1 u v'/\fX P W φ H nx w φ1 H1 aE)->
    ∃φ' us H' nx',(g us H' nx').run O=some r/\LR φ' us cs'/\fX P W φ H nx w φ' H' nx':=by
    intro m t v v' hv hv' ⟨φ1,u,H1,aE,h2,h3,h4⟩;have hl1:LR φ1 (cs.set m u) cs':=by
     have:=(hl.mono h4.1).set m h3
     have e:cs'.set m v'=cs':=by
      refine List.ext_getElem? λj=> ?_;rw[List.getElem?_set]
      by_cases hi:m=j
      . subst hi;rw[if_pos rfl,hv',if_pos (List.getElem?_eq_some_iff.1 hv').1]
      . rw[if_neg hi]
     rw[e]at this;exact this
    obtain⟨φ2,us,H2,nx2,h5,h6,h7⟩:=mj ts l _ cs' φ1 H1 aE h4.2.1 h4.2.2.1 hl1 h2;exact⟨φ2,us,H2,nx2,h5,h6,h4.trans h7⟩
   have h:(bif Nat.ble 1000 i then aa ts[i-1000]? (λt=>aa cs[i-1000]? (λv=>aX P t v H nx λv H nx=>yr P ts l (cs.set (i-1000) v) H nx g) .bad) .bad else
    aa ts[i]? (λt=>aa cs[i]? (λv=>eg P t v H nx λv H nx=>yr P ts l (cs.set i v) H nx g) .bad) .bad:Q).run O=some r:=h
   cases hb:Nat.ble 1000 i with
   | true=>
     rw[hb,cond_true]at h;obtain⟨t,_,h0⟩:=bP h;obtain⟨v,hv,h1⟩:=bP h0;obtain⟨v',hv',hvr⟩:=hl.get hv;exact go _ t v v' hv hv' (AO hH cg hvr h1)
   | false=>
     rw[hb,cond_false]at h;obtain⟨t,_,h0⟩:=bP h;obtain⟨v,hv,h1⟩:=bP h0;obtain⟨v',hv',hvr⟩:=hl.get hv;exact go _ t v v' hv hv' (AN hH cg hvr h1)
def VG (tmps:Array Value):ResultVar->Sem Value
 | .tmp t=>pure (tmps.getD t undef)
 | .cell a t=>do loadVar t (<- asAddr (tmps.getD a undef))
theorem ml (hH:HR P W φ (hp H) w)(htr:yR φ (λ_=>False) tm tmps):∀(l:List ResultVar) {g:List Value->Q},(FC P H tm l g).run O=some r->
 ∃vs vs',(g vs).run O=some r/\LR φ vs vs'/\(l.mapM (VG tmps)).run P w= .ok vs' w
 | [],g,h=>⟨[],[],h,.nil,rfl⟩
 | .tmp t::l,g,h=>by
   obtain⟨v,hv,h1⟩:=bP (show(aa (tm.get (bits t)) (λv=>FC P H tm l λvs=>g (v::vs)) .bad).run O=some r from h);obtain⟨us,us',h2,h3,h4⟩:=ml hH htr l h1;obtain⟨v',h5,h6⟩:=(htr t v hv).resolve_left id;refine⟨v::us,v'::us',h2,.cons h6 h3,?_⟩;have e:tmps.getD t undef=v':=by simp[Array.getD_eq_getD_getElem?,h5]
   simp only[List.mapM_cons,VG,Sem.run_bind,Sem.run_pure,Result.andThen_ok,e,h4]
 | .cell a t::l,g,h=>by
   obtain⟨v,hv,h1⟩:=bP (show(aa (ae P H t (tm.get (bits a))) (λv=>FC P H tm l λvs=>g (v::vs)) .bad).run O=some r from h);obtain⟨us,us',h2,h3,h4⟩:=ml hH htr l h1;cases ha:tm.get (bits a)with
   | none=>rw[ha]at hv;cases hv
   | some pv=>
     rw[ha]at hv;obtain⟨pv',h5,h6⟩:=(htr a pv ha).resolve_left id;obtain⟨v',ad,h7,h8,h9⟩:=mL hH (y:=pv') (λu hu=>by cases hu;exact h6) hv;subst h7;refine⟨v::us,v'::us',h2,.cons h8 h3,?_⟩;have e1:tmps.getD a undef= .pointer (some ad):=by simp[Array.getD_eq_getD_getElem?,h5]
     simp only[List.mapM_cons,VG,Sem.run_bind,e1,asAddr,Sem.run_pure,Result.andThen_ok,h9,h4]
theorem KZ {vs vs':List Value}(h:LR φ vs vs'):VR φ (Th vs) (if h:vs'.toArray.size=1 then vs'.toArray[0]else .tuple vs'.toArray):=by
 cases vs with
 | nil=>cases h.lg;exact .flat _ rfl
 | cons a l=>
   obtain⟨a',l',rfl,h4,h5⟩:=h.inv;cases l with
   | nil=>cases h5.lg;exact h4
   | cons b m=>
     obtain⟨b',m',rfl,_,_⟩:=h5.inv;rw[dif_neg (by simp)];exact h.tuple
theorem fX.fin (h:fX P W φ H nx w φ' H' nx'){rc:Bool}(h':dq P W kd fn lo cs0 rc φ' H' r fr w):dq P W kd fn lo cs0 rc φ H r fr w:=
 h'.steps (.refl _ _) h.1 λk _ q=>h.2.2.2.1 k q
theorem K0 {pl:jF}(hH:HR P W φ (hp H) w)(cg:φ.length=nx)(hkd:c.kd=kd)(hfn:c.fn=fn)(htr:yR φ (λ_=>False) tm tmps)(h:(Pj P pl c tm H nx).run O=some r):
 dq P W kd fn lo cs0 c.rc φ H r { dD (cH c []) tmps todo with mode:= .returning } w:=by
 unfold Pj at h;obtain⟨fd,hfd,h1⟩:=bP h;obtain⟨vs,vs',h2,h3,h4⟩:=ml hH htr _ h1;obtain⟨φ',us,H',nx',h5,h6,h7⟩:=mj fd.resultTypes _ _ _ φ H nx hH cg h3 h2;have h5:=pJ h5;subst h5;have h8:(results fd tmps).run P w= .ok (if h:vs'.toArray.size=1 then vs'.toArray[0]else .tuple vs'.toArray) w:=by
  have e:results fd tmps=(do let vs <- fd.results.mapM (VG tmps);pure (if h:vs.size=1 then vs[0]else .tuple vs)):=rfl;rw[e,Sem.run_bind,Array.mapM_eq_mapM_toList,Sem.run_map,h4];rfl
 refine h7.fin ⟨φ',w,_,.refl _ _,φ'.le_refl,h7.2.1,h7.2.2.1,λk _ q=>⟨q,rfl⟩,?_,?_,_,KZ h6,rfl,rfl,fd,?_,h8⟩
 . show kindOf c.kd=kindOf kd;rw[hkd]
 . exact hfn
 . exact hfd
end
section
variable {P:Program}{W w w' w1:World}{f fn:FuncId}{cs cs0:List Frame}{r r1:Rt}{fr fr' fr1:Frame}{φ φ' φ1:cO}{H H' H1:T OB}{nx nx' aE nt lo hi:Nat}{tm:T Value}{tmps:Array Value}{ops:Array Oper}
 {todo k:List Item} {c:Cg} {ds:List Deferred} {kd:Bool} {O:bz->Option Rt} {pl:jF}
structure Fx (P:Program)(W:World)(lo:Nat)(cs0:List Frame)(c:Cg)(φ:cO)(H:T OB)(nx:Nat)(tmps:Array Value)(ds:List Deferred)(w:World):Prop where
 hH:HR P W φ (hp H) w
 cg:φ.length=nx
 kC:lo<=nx
 kB:tmps.size=c.nt
 vm:NQ P φ c.df ds
 rE:AK φ c.kd c.rp c.rc cs0
def mZ (P:Program)(W:World)(c:Cg)(tm:T Value)(todo:List Item)(H:T OB)(nx:Nat)(r:Rt):Prop:=
 ∀φ w lo tmps ds cs0,Fx P W lo cs0 c φ H nx tmps ds w->yR φ (λ_=>False) tm tmps->dq P W c.kd c.fn lo cs0 c.rc φ H r (dD (cH c ds) tmps todo) w
def PE (P:Program)(W:World)(f:FuncId)(args:List Value)(kd:Bool)(rp:Option Value)(H:T OB)(nx:Nat)(r:Rt):Prop:=
 ∀φ w args' cs0,HR P W φ (hp H) w->φ.length=nx->LR φ args args'->AK φ kd rp false cs0->dq P W kd f nx cs0 false φ H r (Frame.enter P f args'.toArray (kindOf kd)) w
def Ha (P:Program)(W:World)(q:bz)(r:Rt):Prop:=match q with
 | .call f args kd rp H nx=>PE P W f args kd rp H nx r
 | .at c tm todo H nx=>mZ P W c tm todo H nx r
def j9 (P:Program)(W:World)(O:bz->Option Rt):Prop:=∀q r,O q=some r->Ha P W q r
def Cc (P:Program)(W:World)(O:bz->Option Rt)(K:Kt)(todo:List Item):Prop:=∀c tm H nx r,(K c tm H nx).run O=some r->mZ P W c tm todo H nx r
theorem mZ.step1 {todo':List Item}(hs:∀(ds:List Deferred) (tmps:Array Value) (cs:List Frame) (w:World),Steps P (lone (dD (cH c ds) tmps todo) cs w) (lone (dD (cH c ds) tmps todo') cs w))(h:mZ P W c tm todo' H nx r):
 mZ P W c tm todo H nx r:=λφ w lo tmps ds cs0 x htr=>(h φ w lo tmps ds cs0 x htr).step1 (hs _ _ _ _)
theorem y3 (hk:∀k,k<φ.length->φ[k]? = some none->φ'[k]? = some none/\hp H' k=hp H k):fg φ φ' (hp H) (hp H'):=λk q=>hk k (List.getElem?_eq_some_iff.1 q).1 q
inductive VH (φ:cO):Mq->Option Value->Prop
 | ret:VH φ .ret none
 | gj {v v':Value} (h:VR φ v v'):VH φ (.gj v) (some v')
theorem FY (m:Option Value):fW m ≠ .run:=by cases m<;>simp[fW]
theorem pL (hO:j9 P W O):∀(l:List (FuncId×List Value)) (m:Mq) (mv:Option Value) (φ:cO) (H:T OB) (nx:Nat) (ds:List Deferred) (w:World),HR P W φ (hp H) w->φ.length=nx->lo<=nx->NQ P φ l ds->VH φ m mv->
 yR φ (λ_=>False) tm tmps->(mH P pl c tm l m H nx).run O=some r->dq P W c.kd c.fn lo cs0 c.rc φ H r { dD (cH c ds) tmps todo with mode:=fW mv } w
 | [],m,mv,φ,H,nx,ds,w,hH,cg,kC,vm,hm,htr,h=>by
   cases vm;have h:(An P pl c tm m H nx).run O=some r:=h;unfold An at h;cases hm with
   | ret=>exact K0 hH cg rfl rfl htr h
   | @gj v v' hv=>
     obtain⟨fd,hfd,h⟩:=bP h;have h:=pJ h;subst h;exact⟨φ,w,_,.refl _ _,φ.le_refl,hH,cg,λk _ q=>⟨q,rfl⟩,rfl,rfl,v',hv,rfl,rfl,fd,hfd⟩
 | (g,args)::l,m,mv,φ,H,nx,ds,w,hH,cg,kC,vm,hm,htr,h=>by
   cases vm with
   | @cons _ d' _ ds' hd hl=>
     obtain⟨a',cap',rfl,hLR,hok⟩:=hd;obtain⟨r1,h1,h2⟩:=mX (show(Q.ask (.call g args true (Ph m) H nx) λr=>Ti m r (mH P pl c tm l)).run O=some r from h);have hinv:(invoke (.fn (.func g) ⟨cap'⟩) a').run P w= .ok (.enter g (a'++⟨cap'⟩)) w:=mV hok _ _;have e:(a'++⟨cap'⟩:Array Value)=(a'.toList++cap').toArray:=Array.ext' (by simp);have hst:=step_defer (P:=P) (fr:={ dD (cH c ({ target:= .fn (.func g) ⟨cap'⟩,args:=a' }::ds')) tmps todo with mode:=fW mv }) (cs:=eh c.rc cs0) (FY mv) rfl rfl hinv;rw[e]at hst;have hrcv:AK φ true (Ph m) false ({ dD (cH c ds') tmps todo with mode:=fW mv }::eh c.rc cs0):=λ_=>by
      cases hm with
      | ret=>exact λF hF=>(gX (C:={ dD (cH c ds') tmps todo with mode:=fW none }) (cs:=eh c.rc cs0) hF).trans rfl
      | gj hv=>exact⟨rfl,_,_,_,[],rfl,rfl,hv⟩
     obtain⟨φ1,w1,frl,s1,hle,hH1,hl1,hk1,hkk,hff,ho1⟩:=hO _ _ h1 φ w _ _ hH cg hLR hrcv;unfold Ti at h2;cases hr1:r1.o with
     | gj v=>rw[hr1]at h2;cases h2
     | ret v=>
       rw[hr1]at h2 ho1;obtain⟨v',hv',hgo⟩:=ho1;have h2:(mH P pl c tm l (bK r1.rc .ret m) r1.H r1.nx).run O=some r:=h2;have hlen:=rS hle (y3 (λk hk q=>hk1 k (by rw[<- cg];exact hk) q));have back:∃mv1,VH φ1 (bK r1.rc .ret m) mv1/\Steps P (lone frl (eh r1.rc ({ dD (cH c ds') tmps todo with mode:=fW mv }::eh c.rc cs0)) w1) (lone { dD (cH c ds') tmps todo with mode:=fW mv1 } (eh c.rc cs0) w1):=by
        cases rE:r1.rc with
        | false=>
          cases hm with
          | ret=>exact⟨none,.ret,.one (step_going_returned (c:={ dD (cH c ds') tmps todo with mode:=fW none }) hkk hgo)⟩
          | gj hv=>exact⟨some _,.gj (hv.mono hle),.one (step_going_returned (c:={ dD (cH c ds') tmps todo with mode:=fW (some _) }) hkk hgo)⟩
        | true=>
          refine⟨none,.ret,?_⟩;cases hm with
          | ret=>exact .one (step_going_returned (c:={ dD (cH c ds') tmps todo with mode:=fW none }) hkk hgo)
          | @gj u u' hv=>exact .one (step_going_returned (c:={ dD (cH c ds') tmps todo with mode:= .panicking [{ v:=u',recovered:=true }] }) hkk hgo)
       obtain⟨mv1,hm1,hs1⟩:=back;have ih:=pL hO l (bK r1.rc .ret m) mv1 φ1 r1.H r1.nx ds' w1 hH1 hl1 (by omega) (hl.mono hle) hm1 (htr.mono hle) h2;exact ih.steps (.head hst (s1.trans hs1)) hle λk hk q=>hk1 k (by omega) q
theorem ot (hO:j9 P W O)(ht:todo=[]\/∃k,todo= .code .ret::k):Cc P W O (u7 P pl) todo:=λc tm H nx r h φ w lo tmps ds cs0 x htr=>by
 have hs:Steps P (lone (dD (cH c ds) tmps todo) (eh c.rc cs0) w) (lone { dD (cH c ds) tmps todo with mode:=fW none } (eh c.rc cs0) w):=by
  rcases ht with rfl | ⟨k,rfl⟩
  . exact .one (step_end (b:=dD (cH c ds) #[] []) (a:=⟨tmps,ds⟩))
  . exact .one (step_ret (b:=dD (cH c ds) #[] []) (a:=⟨tmps,ds⟩))
 exact(pL hO c.df .ret none φ H nx ds w x.hH x.cg x.kC x.vm .ret htr h).step1 hs
theorem Cd (hO:j9 P W O){g:FuncId}{args args':List Value}(h1:O (.call g args false none H nx)=some r1)(hH:HR P W φ (hp H) w)(cg:φ.length=nx)(hLR:LR φ args args'){C:Frame}(hC:C.mode= .run)(cs:List Frame):
 ∃φ1 w1,φ.le φ1/\HR P W φ1 (hp r1.H) w1/\φ1.length=r1.nx/\fg φ φ1 (hp H) (hp r1.H)/\nx<=r1.nx/\(match r1.o with
  | .ret v=>∃v',VR φ1 v v'/\Steps P (lone (Frame.enter P g args'.toArray .normal) (C::cs) w) (lone (C.finish v') cs w1)
  | .gj v=>∃v',VR φ1 v v'/\Steps P (lone (Frame.enter P g args'.toArray .normal) (C::cs) w) (lone { C with mode:=fW (some v') } cs w1)):=by
 have hC':∀l,C.mode ≠ .panicking l:=λl q=>by rw[hC]at q;cases q
 obtain⟨φ1,w1,frl,s1,hle,hH1,hl1,hk1,hkk,hff,ho1⟩:=hO _ _ h1 φ w _ (C::cs) hH cg hLR (λq=>by cases q);have hkeep:fg φ φ1 (hp H) (hp r1.H):=y3 (λk hk q=>hk1 k (by rw[<- cg];exact hk) q);rw[yZ _ hC',yZ _ hC']at s1;refine⟨φ1,w1,hle,hH1,hl1,hkeep,by have:=rS hle hkeep;omega,?_⟩;cases hr1:r1.o with
 | ret v=>
   rw[hr1]at ho1;obtain⟨v',hv',hgo⟩:=ho1;refine⟨v',hv',s1.trans (.one (step_leave_returned ?_))⟩;obtain⟨a,b,c⟩:=hgo;exact⟨a,b,hkk,c⟩
 | gj v=>
   rw[hr1]at ho1;obtain⟨v',hv',hgo⟩:=ho1;refine⟨v',hv',s1.trans (.one ?_)⟩;have:=step_going_panicked (c:=C) (cs:=cs) hgo;rw[show raised C.mode [{ v:=v',recovered:=false }]=fW (some v')from by rw[hC];rfl]at this;exact this
theorem vn {fb:FB}{o:Oper}{i:Nat}{rest:List Nat}{v:Value}(ho:ops[i]? = some o)(hw:Region.wanted o (yielded ops tmps)=true)
 (he:iR P W φ H w ((execOp (dS tmps) o).run P w) v H' nx'):
 ∃φ' v' w',step P (lone (dD fb tmps (.inRegion ops (i::rest)::k)) cs w)= .next (lone (dD fb (jg tmps o.dst v') (.inRegion ops rest::k)) cs w')/\
  VR φ' v v'/\φ.le φ'/\HR P W φ' (hp H') w'/\φ'.length=nx'/\fg φ φ' (hp H) (hp H'):=by
 obtain⟨φ',v',w',x,hr,hx,h1,h2,h3,h4,h5⟩:=he;refine⟨φ',v',w',?_,h1,h2,h3,h4,h5⟩;rcases hx with rfl | ⟨rfl,rfl⟩
 . exact eP ho hw hr
 . exact rM ho hw hr
theorem Hb {l:List Operand}:∀t,Operand.tmp t∈l->¬(λ(_:Nat)=>False) t:=λ_ _ h=>h
theorem Fx.next (x:Fx P W lo cs0 c φ H nx tmps ds w)(hle:φ.le φ')(hH:HR P W φ' (hp H') w')(hl:φ'.length=nx')(hn:nx<=nx'){tmps':Array Value}(kB:tmps'.size=tmps.size):Fx P W lo cs0 c φ' H' nx' tmps' ds w':=
 ⟨hH,hl,Nat.le_trans x.kC hn,kB.trans x.kB,x.vm.mono hle,x.rE.mono hle⟩
theorem yR.refine {M:Nat->Prop}(h:yR φ M tm tmps){d:Tmp}{v v':Value}(hd:tmps[d]? = some v')(hv:VR φ v v'):yR φ M (cL tm (some d) v) tmps:=λt u q=>by
 rw[fG]at q;split at q
 . rename_i e;cases e;cases q;exact .inr ⟨v',hd,hv⟩
 . exact h t u q
theorem Hc (hH:HR P W φ (hp H) w)(cg:φ.length=nx){o:Oper}{e:TypeId}{x:Operand}(ho:o.op= .box e x)(hE:∀v,bM P tm x=some v->VR φ v (dS tmps x)){u:Value}(hu:bM P tm x=some u):
 ∃φ' v' w',(execOp (dS tmps) o).run P w= .ok (.value v') w'/\VR φ' (ak u) v'/\φ.le φ'/\HR P W φ' (hp H) w'/\φ'.length=nx+1/\fg φ φ' (hp H) (hp H):=by
 have hc:=(hE u hu).cells;have hb:Below w.heap.size w (w.alloc (.cells (dS tmps x).cells e)):=(Below.refl w.heap.size w).alloc (Nat.le_refl _) _;refine⟨φ++[some ⟨w.heap.size,0,0,some (dS tmps x).cells⟩],.pointer (some ⟨w.heap.size,0,none⟩),w.alloc (.cells (dS tmps x).cells e),?_,?_,cV φ _,?_,by simp[cg],?_⟩
 . simp[execOp,ho,Instr.box,newVar,newRow]
 . refine VR.ep (e:=⟨w.heap.size,0,0,some (dS tmps x).cells⟩) (eO φ _) rfl (by rw[hc.len];simp) (λj a b ha hb=> ?_);rw[Nat.zero_add]at hb;exact(hc.at_ j a b ha (by simpa using hb)).mono (cV φ _)
 . refine(hH.grown hb).ghost (el:=e) (fz:=(0,0)) rfl (Go.heap_alloc_new w _) (λk y ob hk _ _ q=> ?_);have:=hH.nS k y hk;have q:y.r=w.heap.size:=q;omega
 . intro k hk;refine⟨?_,rfl⟩;rw[List.getElem?_append_left (List.getElem?_eq_some_iff.1 hk).1];exact hk
theorem AP (hH:HR P W φ (hp H) w)(cg:φ.length=nx){o:Oper}{t:TypeId}{d:Tmp}{x:Operand}(ho:o.op= .store t (.tmp d) x)(hE:nT P φ tm (dS tmps) [.tmp d,x]){b n s:Nat}{tr:T Value}{el:TypeId}{u:Value}
 (ha:bM P tm (.tmp d)=some (.pointer (some ⟨b,0,none⟩))) (hu:bM P tm x=some u) (hg:H.get (bits b)=some (.cells n tr el)) (hs:bq P t=some s) (hn:n=s) (hl:u.cells.toList.length=s) (hone:u.cells.toList.all aA=true):
 ∃φ' v' w' y,(execOp (dS tmps) o).run P w= .ok y w'/\(y= .value v'\/(y= .skip/\v'=undef))/\v'=undef/\VR φ' (ak u) (dS tmps (.tmp d))/\φ.le φ'/\HR P W φ' (hp (set H (bits b) (some .dead))) w'/\φ'.length=nx+1/\fg φ φ' (hp H) (hp (set H (bits b) (some .dead))):=by
 subst hn;have hef:ah P H nx t (bM P tm (.tmp d)) (bM P tm x)= .val undef (set H (bits b) (some (.cells n (eD u.cells.toList 0 tr) el))) nx:=by
  rw[ha,hu];show dV (H.get (bits b)) (λn tr e=>aa (bq P t) (λs=>bif Nat.beq u.cells.toList.length s&&Nat.ble (0+s) n&&u.cells.toList.all aA then
   eJ u.cells.toList 0 tr λtr=>dt (bits b) H (some (.cells n tr e)) λH=>eL.val undef H nx else .bad) .bad) .bad=_
  rw[hg];show aa (bq P t) (λs=>bif Nat.beq u.cells.toList.length s&&Nat.ble (0+s) n&&u.cells.toList.all aA then
   eJ u.cells.toList 0 tr λtr=>dt (bits b) H (some (.cells n tr el)) λH=>eL.val undef H nx else .bad) .bad=_
  rw[hs,aT,hl,hone,dk,bl];have e1:Nat.beq n n=true:=Nat.beq_refl n;have e2:Nat.ble (0+n) n=true:=by rw[Nat.zero_add];exact Nat.ble_eq_true_of_le (Nat.le_refl n)
  rw[e1,e2];rfl
 obtain⟨φ1,v',w1,y,hr,hy,h1,h2,h3,h4,h5⟩:=yG hH cg ho hE hef;obtain⟨en,hb,_,hp1⟩:=(hE (.tmp d) (by simp) _ ha).eE;have hb1:=h2 b en hb;have hg1:hp (set H (bits b) (some (.cells n (eD u.cells.toList 0 tr) el))) b=some (.cells n (eD u.cells.toList 0 tr) el):=by rw[bN,cZ]
 obtain⟨c,el',hrow,hrsz,hrn,rE⟩:=h3.cells hg1 hb1;have hk:=h3.kill hg1 hb1;rw[bN,mQ,<- bN]at hk;have hgh:=hk.ghost (e:=⟨en.r,en.sz,en.es,some c⟩) rfl hrow (λk x ob hk' hgk hlk hr=>by
  rw[bN]at hgk
  by_cases hkb:k=b
  . subst hkb;rw[cZ]at hgk;cases hgk;cases hlk
  . rw[bg _ hkb]at hgk;exact hkb (h3.inj k b _ _ x en hk' hb1 (by rw[bN,bg _ hkb];exact hgk) hg1 hlk rfl hr))
 refine⟨_,v',w1,y,hr,hy,h1.aI rfl,?_,cO.le_trans h2 (cV φ1 _),hgh,by simp[h4],?_⟩
 . rw[hp1];refine VR.ep (e:=⟨en.r,en.sz,en.es,some c⟩) (c:=c) (eO φ1 _) rfl (by rw[hl];omega) (λj a b' hja hjb=> ?_);have hjl:j<u.cells.toList.length:=(List.getElem?_eq_some_iff.1 hja).1;obtain⟨a',g1,g2⟩:=rE j (by omega) a (by rw[dF,if_pos (by omega),Nat.sub_zero];exact hja);rw[Nat.zero_add,g1]at hjb;cases hjb;exact g2.mono (cV φ1 _)
 . intro k hk';obtain⟨q1,q2⟩:=h5 k hk';refine⟨?_,?_⟩
   . rw[List.getElem?_append_left (List.getElem?_eq_some_iff.1 q1).1];exact q1
   . rw[bN,bg];intro q;subst q;rw[hb]at hk';cases hk'
theorem Hd {o:Oper}(h:KL pl fn o=true):(∃e x,o.op= .box e x)\/∃t d x,o.op= .store t (.tmp d) x:=by
 unfold KL at h;split at h
 . rename_i e x ho;exact .inl ⟨e,x,ho⟩
 . rename_i t d x ho;exact .inr ⟨t,d,x,ho⟩
 . cases h
theorem kJ (hO:j9 P W O){K:Kt}(hK:Cc P W O K k):∀l:List Nat,Cc P W O (lS P pl ops K l) (.inRegion ops l::k)
 | [],c,tm,H,nx,r,h=>(hK c tm H nx r h).step1 λds tmps cs w=> .one (step_region_end (b:=dD (cH c ds) #[] []) (a:=⟨tmps,ds⟩))
 | i::rest,c,tm,H,nx,r,h=>λφ w lo tmps ds cs0 x htr=>by
   obtain⟨o,ho,h⟩:=bP (show(Ev.aa ops[i]? (VT P pl ops c tm H nx (lS P pl ops K rest)) .bad).run O=some r from h);unfold VT at h;obtain⟨b,hb,hy,hn⟩:=um h;have hw:Region.wanted o (yielded ops tmps)=b:=oi htr (λ_ _ _ _ h=>h) hb;have hE:nT P φ tm (dS tmps) o.op.operands.toList:=vk x.hH.gl htr Hb;have next:∀{φ':cO} {H':T OB} {nx':Nat} {w':World} {v v':Value},
    Steps P (lone (dD (cH c ds) tmps (.inRegion ops (i::rest)::k)) (eh c.rc cs0) w) (lone (dD (cH c ds) (jg tmps o.dst v') (.inRegion ops rest::k)) (eh c.rc cs0) w')->
    φ.le φ'->HR P W φ' (hp H') w'->φ'.length=nx'->nx<=nx'->fg φ φ' (hp H) (hp H')->VR φ' v v'->((∀d,o.dst=some d->d<c.nt)/\(lS P pl ops K rest c (cL tm o.dst v) H' nx').run O=some r)->
    dq P W c.kd c.fn lo cs0 c.rc φ H r (dD (cH c ds) tmps (.inRegion ops (i::rest)::k)) w:=λhs hle hH' hl hn hkp hv hq=>by
    obtain⟨hd,hq⟩:=hq;have hd':∀d,o.dst=some d->d<tmps.size:=λd h=>by rw[x.kB];exact hd d h
    exact dq.steps hs hle (λk _ q=>hkp k q) (kJ hO hK rest _ _ _ _ _ hq _ _ _ _ ds cs0 (x.next hle hH' hl hn (ej ..)) ((htr.mono hle).put hd' hv λt h _=>h))
   cases b with
   | false=>exact next (.one (rN ho hw)) φ.le_refl x.hH x.cg (Nat.le_refl _) (fg.refl _ _) (.flat undef rfl) (dj (hn rfl))
   | true=>
     have h:=hy rfl;unfold XT at h;rcases eo h with⟨hrd,h⟩ | ⟨hrd,h⟩
     . obtain⟨v,hv,h⟩:=bP h;obtain⟨v',h1,h2⟩:=rA x.hH hE hv;exact next (.one (eP ho hw h2)) φ.le_refl x.hH x.cg (Nat.le_refl _) (fg.refl _ _) h1 (mY h)
     . rcases eo h with⟨hct,h⟩ | ⟨hct,h⟩
       . cases he:ef P H nx tm o with
         | bad=>rw[he]at h;cases h
         | val v H' nx'=>rw[he]at h;cases h
         | call g args=>
           rw[he]at h;obtain⟨args',h1,hok,h2⟩:=B_ hE he;obtain⟨r1,h3,h4⟩:=mX (show(Q.ask (.call g args false none H nx) _).run O=some r from h);obtain⟨φ1,w1,hle,hH1,hl1,hkp,hn1,ho1⟩:=Cd hO h3 x.hH x.cg h1 (C:=dD (cH c ds) tmps (.inRegion ops (i::rest)::k)) rfl (eh c.rc cs0);cases hr1:r1.o with
           | ret v=>
             rw[hr1]at ho1;simp only[hr1]at h4;obtain⟨v',hv',hs⟩:=ho1;rw[mf ho]at hs;exact next (.head (jK ho hw (h2 w)) hs) hle hH1 hl1 hn1 hkp hv' (mY h4)
           | gj v=>
             rw[hr1]at ho1;simp only[hr1]at h4;obtain⟨v',hv',hs⟩:=ho1;exact(pL hO c.df (.gj v) (some v') φ1 r1.H r1.nx ds w1 hH1 hl1 (by have:=x.kC;omega) (x.vm.mono hle) (.gj hv') (htr.mono hle) h4).steps (.head (jK ho hw (h2 w)) hs) hle λk _ q=>hkp k q
         | S4 g args=>
           rw[he]at h;obtain⟨d',h1,h2⟩:=Px hE he;obtain⟨hd,hq⟩:=dj (show(jD c.nt tm o.dst undef (λtm=>lS P pl ops K rest ⟨c.fn,c.nt,c.kd,(g,args)::c.df,c.rp,c.rc⟩ tm H nx) .bad).run O=some r from h);have hd':∀d,o.dst=some d->d<tmps.size:=λd h=>by rw[x.kB];exact hd d h
           have hx:Fx P W lo cs0 ⟨c.fn,c.nt,c.kd,(g,args)::c.df,c.rp,c.rc⟩ φ H nx (jg tmps o.dst undef) (d'::ds) w:=⟨x.hH,x.cg,x.kC,(ej ..).trans x.kB,.cons h1 x.vm,x.rE⟩;exact dq.step1 (.one (GZ ho hw (h2 w))) (kJ hO hK rest _ _ _ _ _ hq _ _ _ _ _ _ hx (htr.put hd' (.flat _ rfl) λt h _=>h))
         | gj v=>
           rw[he]at h;obtain⟨v',h1,h2⟩:=GW hE he;exact(pL hO c.df (.gj v) (some v') φ H nx ds w x.hH x.cg x.kC x.vm (.gj h1) htr h).step1 (.one (yQ ho hw (h2 w)))
         | S5=>
           rw[he]at h;have h:(Tj c λc v=>jD c.nt tm o.dst v (λtm=>lS P pl ops K rest c tm H nx) .bad).run O=some r:=h;have h2:=Py (ρ:=dS tmps) he w;have none':tryRecover (dD (cH c ds) tmps (.inRegion ops (i::rest)::k)) (eh c.rc cs0)=none->(jD c.nt tm o.dst .nilIface (λtm=>lS P pl ops K rest c tm H nx) .bad).run O=some r->
            dq P W c.kd c.fn lo cs0 c.rc φ H r (dD (cH c ds) tmps (.inRegion ops (i::rest)::k)) w:=λht hq=>
            next (.one (tF ho hw h2 ht)) φ.le_refl x.hH x.cg (Nat.le_refl _) (fg.refl _ _) (.flat .nilIface rfl) (dj hq)
           obtain⟨cfn,Ta,ckd,cdf,crp,crc⟩:=c;have rE:AK φ ckd crp crc cs0:=x.rE;cases ckd with
           | false=>exact none' (AL rfl) h
           | true=>
             have hk2:(dD (cH ⟨cfn,Ta,true,cdf,crp,crc⟩ ds) tmps (.inRegion ops (i::rest)::k)).kind= .deferred:=rfl;have rE:=rE rfl;cases crp with
             | none=>exact none' (rE _ hk2) h
             | some v=>
               obtain⟨q,C,rs,v',older,hcs,hC,hv⟩:=rE;subst q hcs;obtain⟨hd,hq⟩:=dj (show(jD Ta tm o.dst v (λtm=>lS P pl ops K rest ⟨cfn,Ta,true,cdf,none,true⟩ tm H nx) .bad).run O=some r from h);have kB:tmps.size=Ta:=x.kB;have hd':∀d,o.dst=some d->d<tmps.size:=λd h=>by rw[kB];exact hd d h
               have ht:tryRecover (dD (cH ⟨cfn,Ta,true,cdf,some v,false⟩ ds) tmps (.inRegion ops (i::rest)::k)) (C::rs)=some (v',yY (C::rs)):=by
                rw[gX hk2];unfold yY;simp only[hC]
               have hx:Fx P W lo (C::rs) ⟨cfn,Ta,true,cdf,none,true⟩ φ H nx (jg tmps o.dst v') ds w:=⟨x.hH,x.cg,x.kC,(ej ..).trans kB,x.vm,λ_ F hF=>G7 (cs:=C::rs) hF⟩;exact dq.steps (rc1:=true) (.one (tG ho hw h2 ht)) φ.le_refl (λ_ _ q=>⟨q,rfl⟩) (kJ hO hK rest _ _ _ _ _ hq _ _ _ _ _ _ hx (htr.put hd' hv λt h _=>h))
       . rcases eo h with⟨hfr,h⟩ | ⟨hfr,h⟩
         . rcases Hd hfr with⟨e,y,hop⟩ | ⟨t,d,y,hop⟩
           . unfold Tn at h;simp only[hop]at h;obtain⟨u,hu,h⟩:=bP (show(aa (bM P tm y) (λv=>bO (Nat.succ nx) λn=>jD c.nt tm o.dst (ak v) (λtm=>lS P pl ops K rest c tm H n) .bad) .bad).run O=some r from h);rw[bm]at h;obtain⟨φ',v',w',hs,h1,h2,h3,h4,h5⟩:=Hc x.hH x.cg hop (λv hv=>hE y (by rw[hop];simp[Op.operands]) v hv) hu;exact next (.one (eP ho hw hs)) h2 h3 h4 (Nat.le_succ _) h5 h1 (dj h)
           . unfold Tn at h;simp only[hop]at h;obtain⟨b,off,ha,h⟩:=G9 (show(B0 P c.nt tm H nx t d o.dst (bM P tm (.tmp d)) (bM P tm y) λtm H nx=>lS P pl ops K rest c tm H nx).run O=some r from h);obtain⟨u,hu,h⟩:=bP h;obtain⟨n,tr,el,hg,h⟩:=AM h;obtain⟨s,hs,h⟩:=bP h;obtain⟨hc,hq⟩:=lk h;rw[bl,bm]at hq;simp only[Bool.and_eq_true]at hc;have hn:=beq_eq hc.2.1;have hl:=beq_eq hc.2.2.1;obtain⟨hd,hq1⟩:=dj hq;obtain⟨hd2,hq2⟩:=dj hq1;have hoff:=beq_eq hc.1;clear h hq hq1;subst hoff;obtain⟨φ',v',w',y',hr,hy',hv',h1,h2,h3,h4,h5⟩:=AP x.hH x.cg hop (by rw[hop]at hE;exact hE) ha hu hg hs hn hl hc.2.2.2;have hst:step P (lone (dD (cH c ds) tmps (.inRegion ops (i::rest)::k)) (eh c.rc cs0) w)= .next (lone (dD (cH c ds) (jg tmps o.dst v') (.inRegion ops rest::k)) (eh c.rc cs0) w'):=by
              rcases hy' with rfl | ⟨rfl,rfl⟩
              . exact eP ho hw hr
              . exact rM ho hw hr
             have hdd:d<tmps.size:=by rw[x.kB];exact hd d rfl
             have hd2':∀e,o.dst=some e->e<tmps.size:=λe q=>by rw[x.kB];exact hd2 e q
             have htd:tmps[d]? = some (dS tmps (.tmp d)):=by
              rw[Array.getElem?_eq_getElem hdd];show _=some (tmps.getD d undef);simp[Array.getD,hdd]
             have ht1:=(htr.mono h2).refine htd h1;refine dq.steps (.one hst) h2 (λk _ q=>h5 k q) (kJ hO hK rest _ _ _ _ _ hq2 _ _ _ _ ds cs0 (x.next h2 h3 h4 (Nat.le_succ _) (ej ..)) ?_);exact ht1.put hd2' (by rw[hv'];exact .flat undef rfl) λt h _=>h
         . obtain⟨v,H',nx',he,h⟩:=pK h;obtain⟨φ',v',w',hs,h1,h2,h3,h4,h5⟩:=vn (fb:=cH c ds) (k:=k) (cs:=eh c.rc cs0) (rest:=rest) ho hw (rF x.hH x.cg hE he);have hn:nx<=nx':=by have:=rS h2 h5;rw[x.cg,h4]at this;exact this
           exact next (.one hs) h2 h3 h4 hn h5 h1 (dj h)
theorem rV (hO:j9 P W O){K:Kt}(hK:Cc P W O K k):∀(l:List (Nat×List Nat)) (tm:T Value) (H:T OB) (nx:Nat) (φ:cO) (tmps:Array Value) (w:World) (π done jw:List Nat) (κ:Nat->Nat),
 (tV P pl ops K l c tm H nx).run O=some r->Fx P W lo cs0 c φ H nx tmps ds w->fo P φ H tm tmps ops done jw l π κ lo nx->kF P H tm ops done π->dq P W c.kd c.fn lo cs0 c.rc φ H r (dD (cH c ds) tmps (.inRegion ops π::k)) w
 | [],tm,H,nx,φ,tmps,w,π,done,jw,κ,h,x,hD,hL=>by
   obtain⟨φ',tmps',w',π',hs,hle,hH',hlen,hk,hD',_,hz,hn⟩:=rP (fn:=cH c ds) (k:=k) (cs:=eh c.rc cs0) π φ tmps w x.hH hD hL;have:=hD'.last hn;subst this;refine dq.steps (hs.trans (.one (step_region_end (b:=dD (cH c ds) #[] []) (a:=⟨tmps',ds⟩)))) hle (λk hk' q=>⟨hk k hk' q,rfl⟩) (hK c tm H nx r h _ _ _ _ ds cs0 (x.next hle hH' (hlen.trans x.cg) (Nat.le_refl _) hz) ?_);exact λt v hv=>(hD'.tr t v hv).imp (λ⟨p,hp,_⟩=>absurd hp List.not_mem_nil) id
 | (i,chk)::rest,tm,H,nx,φ,tmps,w,π,done,jw,κ,h,x,hD,hL=>by
   obtain⟨o,ho,hni,hrdy,hpr,hpe⟩:=iI hD.FV;obtain⟨o',ho',h⟩:=bP (show(Ev.aa ops[i]? (VV P pl ops chk c tm H nx (tV P pl ops K rest)) .bad).run O=some r from h);rw[ho]at ho';cases ho';unfold VV at h;obtain⟨b,hb,hy,hn0⟩:=um h;have kB:=x.kB;have ahead:∀{φ':cO} {H':T OB} {nx':Nat} {κ':Nat->Nat} {u:Value},ku (jE ops) i o=true->(∀d,o.dst=some d->d<c.nt)->φ.le φ'->
    (∀k,k<nx->φ[k]? = some none->φ'[k]? = some none/\hp H' k=hp H k)->(∀p,p≠i->κ' p=κ p)->nx<=nx'->HR P W φ' (hp H') w->φ'.length=nx'->
    yT P φ' H' (cL tm o.dst u) ops κ' lo nx' i o->(qX o.op=true->nx<=κ' i)->(∀k ob,hp H k=some ob->hp H' k=some ob)->
    (mG o.op=true->ca (cL tm o.dst u) ops o=some true->rd P H' (cL tm o.dst u) o=some u)->
    (tV P pl ops K rest c (cL tm o.dst u) H' nx').run O=some r->dq P W c.kd c.fn lo cs0 c.rc φ H r (dD (cH c ds) tmps (.inRegion ops π::k)) w:=by
    intro φ' H' nx' κ' u hc hd hle hk hκ hn hH' hl hprom hfresh hext hself hq;have hna:i∉j7 ops:=G0 λhm=>by
     have hm':(jE ops).contains i=true:=by simpa using hm
     unfold ku at hc;rw[hm',Bool.not_true,Bool.and_false]at hc;cases hc
    refine dq.steps (.refl _ _) hle (λk hk' q=>hk k (by have:=x.kC;omega) q) (rV hO hK rest _ H' nx' φ' tmps w π (i::done) _ κ' hq (x.next hle hH' hl hn rfl)
     (hD.take ho hna hni hrdy (hpr hc) (λp hp=> ?_) (λhl=> ?_) hle hk hκ hn (λd h=>by rw[kB];exact hd d h) hprom hfresh) (hL.take hD.sa hD.ready ho hna hni hext hself))
    . split
      . exact List.mem_cons_of_mem _ hp
      . exact hp
    . rw[if_pos hl];simp
   have hself:∀{d:Tmp},o.dst=some d->d∉o.looksAt ops:=λhd=>G5 hD.sa hD.ac ho hd;have e1:∀u,ca (cL tm o.dst u) ops o=ca tm ops o:=λu=>kI (i:=i) (p:=i) λd hd=>hself hd;have e2:∀u H,rd P H (cL tm o.dst u) o=rd P H tm o:=λu H=>oo λd hd=>hself hd;have e3:∀u d,o.dst=some d->(cL tm o.dst u).get (bits d)=some u:=λu d hd=>by rw[fG,if_pos hd]
   have turn:ku (jE ops) i o=false->∃φ1 tmps1 w1 l,Steps P (lone (dD (cH c ds) tmps (.inRegion ops π::k)) (eh c.rc cs0) w) (lone (dD (cH c ds) tmps1 (.inRegion ops (i::l)::k)) (eh c.rc cs0) w1)/\
    φ.le φ1/\(∀k,k<lo->φ[k]? = some none->φ1[k]? = some none/\hp H k=hp H k)/\Fx P W lo cs0 c φ1 H nx tmps1 ds w1/\fo P φ1 H tm tmps1 ops done jw ((i,chk)::rest) (i::l) κ lo nx/\
    Region.wanted o (yielded ops tmps1)=b/\nT P φ1 tm (dS tmps1) o.op.operands.toList:=by
    intro hc;obtain⟨φ1,tmps1,w1,π',hs,hle,hH1,hlen,hk,hD1,_,hz,hn⟩:=rP (fn:=cH c ds) (k:=k) (cs:=eh c.rc cs0) π φ tmps w x.hH hD hL;obtain⟨l,rfl⟩:=hD1.head ho hc hn;exact⟨φ1,tmps1,w1,l,hs,hle,λj hj q=>⟨hk j hj q,rfl⟩,x.next hle hH1 (hlen.trans x.cg) (Nat.le_refl _) hz,hD1,
     oi hD1.tr (λp hp d hd=>lj hD1.KD hD1.own ho (kH hp hd)) hb,vk hH1.gl hD1.tr λt ht=>lj hD1.KD hD1.own ho (kG ht)⟩
   have fin:∀{φ1 φ2:cO} {H':T OB} {nx':Nat} {tmps1:Array Value} {w1 w2:World} {l:List Nat} {v v':Value},ku (jE ops) i o=false->Fx P W lo cs0 c φ1 H nx tmps1 ds w1->fo P φ1 H tm tmps1 ops done jw ((i,chk)::rest) (i::l) κ lo nx->
    Steps P (lone (dD (cH c ds) tmps1 (.inRegion ops (i::l)::k)) (eh c.rc cs0) w1) (lone (dD (cH c ds) (jg tmps1 o.dst v') (.inRegion ops l::k)) (eh c.rc cs0) w2)->
    φ1.le φ2->HR P W φ2 (hp H') w2->φ2.length=nx'->nx<=nx'->fg φ1 φ2 (hp H) (hp H')->VR φ2 v v'->((∀d,o.dst=some d->d<c.nt)/\(qZ P H' (cL tm o.dst v) ops chk (tV P pl ops K rest c (cL tm o.dst v) H' nx')).run O=some r)->
    dq P W c.kd c.fn lo cs0 c.rc φ1 H r (dD (cH c ds) tmps1 (.inRegion ops (i::l)::k)) w1:=by
    intro φ1 φ2 H' nx' tmps1 w1 w2 l v v' hc x1 hD1 hs hle hH2 hl hn hkp hv hq;obtain⟨hd,hq⟩:=hq;unfold qZ at hq;rcases eo hq with⟨hchk,hq⟩ | ⟨_,hq⟩
    . obtain⟨h6,h7⟩:=hD1.finish (H':=H') ho hc hle (λj _ q=>hkp j q) hn hv (λd h=>by rw[x1.kB];exact hd d h) hchk;exact dq.steps hs hle (λk _ q=>hkp k q) (rV hO hK rest _ _ _ _ _ _ _ _ _ _ hq (x1.next hle hH2 hl hn (ej ..)) h6 h7)
    . exact(gE hq).elim
   cases b with
   | true=>
     have h:=hy rfl;unfold XU at h;rcases eo h with⟨hrd,h⟩ | ⟨hrd,h⟩
     . obtain⟨v,hv,h⟩:=bP h;obtain⟨hd,hq⟩:=mY h;cases hf:ku (jE ops) i o with
       | false=>
         obtain rfl:chk=[]:=(hpe hf).1 hrd;obtain⟨φ1,tmps1,w1,l,hs,hle1,hk1,x1,hD1,hw1,hE1⟩:=turn hf;obtain⟨v',hvr,hrun⟩:=rA x1.hH hE1 hv;exact dq.steps hs hle1 hk1 (fin hf x1 hD1 (.one (eP ho hw1 hrun)) φ1.le_refl x1.hH x1.cg (Nat.le_refl _) (fg.refl _ _) hvr ⟨hd,by unfold qZ;exact hq⟩)
       | true=>
       exact ahead (u:=v) (κ':=κ) hf hd φ.le_refl (λk _ q=>⟨q,rfl⟩) (λ_ _=>rfl) (Nat.le_refl _) x.hH x.cg
        (.inr (.inl ⟨(e1 v).trans hb,hrd,v,e3 v,λ_=>(e2 v H).trans hv⟩)) (λhal=>by
         rw[Cb hal]at hrd;cases hrd) (λ_ _ h=>h) (λ_ _=>(e2 v H).trans hv) hq
     . rcases eo h with⟨hal,h⟩ | ⟨hal,h⟩
       . cases hf:ku (jE ops) i o with
         | false=>
           obtain⟨φ1,tmps1,w1,l,hs,hle1,hk1,x1,hD1,hw1,hE1⟩:=turn hf;refine dq.steps hs hle1 hk1 ?_;obtain⟨v,H',nx',he,h⟩:=pK h;obtain⟨φ2,v',w2,hs2,h1,h2,h3,h4,h5⟩:=vn (fb:=cH c ds) (k:=k) (cs:=eh c.rc cs0) (rest:=l) ho hw1 (rF x1.hH x1.cg hE1 he);have hn:nx<=nx':=by have:=rS h2 h5;rw[x1.cg,h4]at this;exact this
           exact fin hf x1 hD1 (.one hs2) h2 h3 h4 hn h5 h1 (dj h)
         | true=>
         obtain⟨v,H',nx',he2,h⟩:=pK h;obtain⟨e,l,mk,hz,rfl,rfl,rfl⟩:=Tx hal he2;obtain⟨hd,hq⟩:=dj h;unfold qZ at hq;have hq:=(eo hq).elim (λq=>q.2) (λq=>(gE q.2).elim);have hnone:hp H nx=none:=by
          cases hx:hp H nx with
          | none=>rfl
          | some ob=>have:=x.hH.oT nx ob hx;have:=x.cg;omega
         have cg:=x.cg;subst cg;refine ahead (u:=mk φ.length) (κ':=λp=>if p=i then φ.length else κ p) (φ':=φ++[none]) hf hd (cV φ _) (λj hj q=>⟨?_,?_⟩) (λp hp=>if_neg hp) (Nat.le_succ _) ?_ (by simp)
          (.inr (.inr ⟨(e1 _).trans hb,hal,e,l,mk,uk (λy hy=>om tm o.dst _ y λd hd q=>by
           subst q;exact hself hd (kG hy)) hz,?_,?_,?_,?_,λd hd=> ?_⟩)) (λ_=> ?_) (λj ob hj=> ?_) (λhl=> ?_) hq
         . rw[List.getElem?_append_left hj];exact q
         . rw[bN,bg _ (by omega)]
         . rw[bN];exact x.hH.Ts _
         . dsimp only;rw[if_pos rfl];exact eO φ _
         . dsimp only;rw[if_pos rfl,bN,cZ]
         . dsimp only;rw[if_pos rfl];exact x.kC
         . dsimp only;rw[if_pos rfl];omega
         . dsimp only;rw[if_pos rfl];exact e3 _ d hd
         . rw[if_pos rfl];exact Nat.le_refl _
         . rw[bN]
           by_cases hjn:j=φ.length
           . subst hjn;rw[hnone]at hj;cases hj
           . rw[bg _ hjn];exact hj
         . rw[KY hal]at hl;cases hl
       . have hc:ku (jE ops) i o=false:=by unfold ku;rw[hrd,hal];rfl
         obtain⟨φ1,tmps1,w1,l,hs,hle1,hk1,x1,hD1,hw1,hE1⟩:=turn hc;refine dq.steps hs hle1 hk1 ?_;rcases eo h with⟨hct,h⟩ | ⟨hct,h⟩
         . cases he:ef P H nx tm o with
           | bad=>rw[he]at h;cases h
           | val v H' nx'=>rw[he]at h;cases h
           | S4 g args=>rw[he]at h;cases h
           | S5=>rw[he]at h;cases h
           | call g args=>
             rw[he]at h;obtain⟨args',h1,hok,h2⟩:=B_ hE1 he;obtain⟨r1,h3,h4⟩:=mX (show(Q.ask (.call g args false none H nx) _).run O=some r from h);obtain⟨φ2,w2,hle,hH2,hl2,hkp,hn1,ho1⟩:=Cd hO h3 x1.hH x1.cg h1 (C:=dD (cH c ds) tmps1 (.inRegion ops (i::l)::k)) rfl (eh c.rc cs0);cases hr1:r1.o with
             | ret v=>
               rw[hr1]at ho1;simp only[hr1]at h4;obtain⟨v',hv',hs2⟩:=ho1;rw[mf ho]at hs2;exact fin hc x1 hD1 (.head (jK ho hw1 (h2 w1)) hs2) hle hH2 hl2 hn1 hkp hv' (mY h4)
             | gj v=>
               rw[hr1]at ho1;simp only[hr1]at h4;obtain⟨v',hv',hs2⟩:=ho1;rcases eo h4 with⟨hdf,h4⟩ | ⟨_,h4⟩
               . have hdf:=List.isEmpty_iff.1 hdf;obtain⟨fd,hfd,h4⟩:=bP (show(aa P.funcs[c.fn]? (λ_=>Q.ret ⟨.gj v,c.rc,r1.H,r1.nx⟩) .bad).run O=some r from h4);have h4:=pJ h4;subst h4;have vm:=x1.vm;rw[hdf]at vm;cases vm;exact⟨φ2,w2,_,.head (jK ho hw1 (h2 w1)) hs2,hle,hH2,hl2,λk _ q=>hkp k q,rfl,rfl,v',hv',rfl,rfl,fd,hfd⟩
               . exact(gE h4).elim
           | gj v=>
             rw[he]at h;obtain⟨v',h1,h2⟩:=GW hE1 he;rcases eo h with⟨hdf,h4⟩ | ⟨_,h4⟩
             . have hdf:=List.isEmpty_iff.1 hdf;obtain⟨fd,hfd,h4⟩:=bP (show(aa P.funcs[c.fn]? (λ_=>Q.ret ⟨.gj v,c.rc,H,nx⟩) .bad).run O=some r from h4);have h4:=pJ h4;subst h4;have vm:=x1.vm;rw[hdf]at vm;cases vm;exact⟨φ1,w1,_,.one (yQ ho hw1 (h2 w1)),φ1.le_refl,x1.hH,x1.cg,λk _ q=>⟨q,rfl⟩,rfl,rfl,v',h1,rfl,rfl,fd,hfd⟩
             . exact(gE h4).elim
         . rcases eo h with⟨hfr,h⟩ | ⟨hfr,h⟩
           . simp only[Bool.and_eq_true]at hfr;obtain⟨e,y,hop⟩:∃e y,o.op= .box e y:=by
              have hb:=hfr.2;unfold NN at hb;split at hb
              . rename_i e y hop;exact⟨e,y,hop⟩
              . cases hb
             unfold Tn at h;simp only[hop]at h;obtain⟨u,hu,h⟩:=bP (show(aa (bM P tm y) (λv=>bO (Nat.succ nx) λn=>jD c.nt tm o.dst (ak v) (λtm=>qZ P H tm ops chk (tV P pl ops K rest c tm H n)) .bad) .bad).run O=some r from h);rw[bm]at h;obtain⟨φ2,v',w2,hs2,h1,h2,h3,h4,h5⟩:=Hc x1.hH x1.cg hop (λv hv=>hE1 y (by rw[hop];simp[Op.operands]) v hv) hu;exact fin hc x1 hD1 (.one (eP ho hw1 hs2)) h2 h3 h4 (Nat.le_succ _) h5 h1 (dj h)
           . obtain⟨v,H',nx',he,h⟩:=pK h;obtain⟨φ2,v',w2,hs2,h1,h2,h3,h4,h5⟩:=vn (fb:=cH c ds) (k:=k) (cs:=eh c.rc cs0) (rest:=l) ho hw1 (rF x1.hH x1.cg hE1 he);have hn:nx<=nx':=by have:=rS h2 h5;rw[x1.cg,h4]at this;exact this
             exact fin hc x1 hD1 (.one hs2) h2 h3 h4 hn h5 h1 (dj h)
   | false=>
     obtain⟨hd,hq⟩:=dj (hn0 rfl);cases hc:ku (jE ops) i o with
     | true=>
       unfold qZ at hq;rcases eo hq with⟨hchk,hq⟩ | ⟨_,hq⟩
       . refine ahead (u:=undef) (κ':=λp=>if p=i then nx else κ p) hc hd φ.le_refl (λk _ q=>⟨q,rfl⟩) (λp hp=>if_neg hp) (Nat.le_refl _) x.hH x.cg
          (.inl ⟨(e1 _).trans hb,e3 _⟩) (λ_=> ?_) (λ_ _ h=>h) (λ_ hw=> ?_) hq
         . rw[if_pos rfl];exact Nat.le_refl _
         . rw[e1,hb]at hw;cases hw
       . exact(gE hq).elim
     | false=>
       obtain⟨φ1,tmps1,w1,l,hs,hle1,hk1,x1,hD1,hw1,_⟩:=turn hc;exact dq.steps hs hle1 hk1 (fin hc x1 hD1 (.one (rN ho hw1)) φ1.le_refl x1.hH x1.cg (Nat.le_refl _) (fg.refl _ _) (.flat undef rfl) (dj (hn0 rfl)))
end
end
end Go.Ev
