/- Texts of this claim, side by side. -/
import Derived.Test.YthjhonhhbddhkaaDoorG1
import Derived.Scope
import Derived.Recover
namespace Go.Ev
open Go.RowKit (Below)
noncomputable section
set_option maxRecDepth 100000
set_option linter.unusedVariables false
set_option linter.unusedSimpArgs false
section
variable {P:Program}{W w:World}{φ:bO}{H:T OB}{tm:T Value}{ρ:Operand->Value}{g:Nat->Option OB}
theorem HR.alias (hH:HR P W φ g w){e:ft}{ob:OB}(hr:e.r<w.heap.size)(hno:∀k ob x,g k=some ob->live ob=true->φ[k]? = some (some x)->x.r≠e.r)
 (h0:e.fz=none) (hfz:∀(k:Nat) (x:ft) (c:Array Value),φ[k]? = some (some x)->x.fz=some c->e.r≠x.r) (hob:tX P W φ ob e w):
 HR P W (φ++[some e]) (lH g φ.length (some ob)) w where
 below:=hH.below
 gl:=hH.Fb (bS φ _)
 mg:=λk o h=>by
  simp only[List.length_append,List.length_singleton]
  by_cases hk:k=φ.length
  . omega
  . rw[az g hk]at h;have:=hH.mg k o h;omega
 lz:=λk x h=>by
  rcases a9 h with h | ⟨_,h⟩
  . exact hH.lz k x h
  . cases h;exact hr
 inj:=λk k' o1 o2 x x' h h' hg hg' hl hl' hrr=>by
  rcases a9 h with h0 | ⟨hk,hx⟩
  . have l0:=(List.getElem?_eq_some_iff.1 h0).1;rw[az g (by omega)]at hg;rcases a9 h' with h1 | ⟨hk',hx'⟩
    . have l1:=(List.getElem?_eq_some_iff.1 h1).1;rw[az g (by omega)]at hg';exact hH.inj k k' o1 o2 x x' h0 h1 hg hg' hl hl' hrr
    . cases hx';exact absurd hrr (hno k o1 x hg hl h0)
  . cases hx;rcases a9 h' with h1 | ⟨hk',hx'⟩
    . have l1:=(List.getElem?_eq_some_iff.1 h1).1;rw[az g (by omega)]at hg';exact absurd hrr.symm (hno k' o2 x' hg' hl' h1)
    . exact hk.trans hk'.symm
 obj:=λk oa x hg h=>by
  rcases a9 h with h0 | ⟨hk,hx⟩
  . have l0:=(List.getElem?_eq_some_iff.1 h0).1;rw[az g (by omega)]at hg;exact(hH.obj k oa x hg h0).mono (bS φ _)
  . cases hx;subst hk;rw[bT]at hg;cases hg;exact hob.mono (bS φ _)
 jV:=λk x c h hf=>by
  rcases a9 h with h1 | ⟨_,hx⟩
  . exact hH.jV k x c h1 hf
  . cases hx;rw[h0]at hf;cases hf
 nK:=λk k' x x' c o h hf h' hg hl=>by
  rcases a9 h with h1 | ⟨_,hx⟩
  . rcases a9 h' with h2 | ⟨_,hx'⟩
    . have l2:=(List.getElem?_eq_some_iff.1 h2).1;rw[az g (by omega)]at hg;exact hH.nK k k' x x' c o h1 hf h2 hg hl
    . cases hx';exact hfz k x c h1 hf
  . cases hx;rw[h0]at hf;cases hf
theorem HR.I3 (hH:HR P W φ g w){k n n':Nat}{t t':T Value}{el:TypeId}{e:ft}(hg:g k=some (.cells n t el))(hk:φ[k]? = some (some e))(hn:n'<=n)
 (ht:∀i,i<n'->t'.get (bits i)=t.get (bits i)):HR P W φ (lH g k (some (.cells n' t' el))) w:=by
 obtain⟨h1,⟨c,el',h2,h3,h4,h5⟩,h6⟩:=hH.obj k _ e hg hk;exact hH.put hg rfl hk hH.below rfl (λ_ _=>rfl) ⟨h1,⟨c,el',h2,h3,by omega,λi hi v hv=>h5 i (by omega) v (by rw[<- ht i hi];exact hv)⟩,h6⟩
section ops
variable {o:Oper}{v:Value}{H':T OB}{nx nx':Nat}
theorem lP {w:World}{r off:Nat}{c:Array Value}{el:TypeId}{fz:Nat×Nat}(hr:w.heap[r]? = some (.cells c el fz)){s:Nat}:
 ∀(j:Nat) (v:Value),((c.toList.drop off).take s)[j]? = some v->w.cell? ((⟨r,off,none⟩:Addr).add j)=some v:=λj v hv=>by
 rw[cq,cell_of_row w r (off+j) c el fz hr];rw[List.getElem?_take]at hv;split at hv
 . rw[List.getElem?_drop]at hv;simpa using hv
 . cases hv
theorem po (hH:HR P W φ (hp H) w){s n c:Nat}{base:Option Addr}{x':Value}{xs:List Value}(hv:VR φ (.slice base n c) x')(h:cellsOf H s base n=some xs):
 ∃xs',LR φ xs xs'/\xs'.length=n*s/\
  ((base=none/\n=0/\x'= .slice none n c)\/∃a c',x'= .slice (some a) n c'/\∀j v,xs'[j]? = some v->w.cell? (a.add j)=some v):=by
 cases base with
 | none=>
   obtain⟨h1,h2⟩:=ax (show(bif Nat.beq n 0 then some []else none)=some xs from h);cases h2;have h1:=beq_eq h1;subst h1;have:=hv.al rfl;exact⟨[],.nil,by simp,.inl ⟨rfl,rfl,this⟩⟩
 | some a=>
   obtain⟨b,off,sp⟩:=a;obtain⟨e,c',hb,rfl,rfl,_⟩:=hv.dQ;have h:o8 (H.get (bits b)) (λm tr=>bif Nat.ble (off+n*s) m then mQ tr (n*s) off else none) none=some xs:=h;obtain⟨m,tr,hg,h⟩:=nH h;obtain⟨hle,hl⟩:=ax h;obtain⟨cs,el',fz,hr,hn,hc⟩:=hH.row hg hb;have hle:=bU hle;obtain⟨h1,h2⟩:=j8 hc hl hle hn;exact⟨_,h1,by rw[<- h1.len,h2],.inr ⟨_,c',rfl,lP hr⟩⟩
theorem jX {w:World}{x':Value}{n s:Nat}{xs':List Value}(hl:xs'.length=n*s)
 (h:(n=0/\∃c,x'= .slice none n c)\/∃a c',x'= .slice (some a) n c'/\∀j v,xs'[j]? = some v->w.cell? (a.add j)=some v):
 (Builtin.firstCells s n x').run P w= .ok xs'.toArray w/\(Builtin.lenOf x').run P w= .ok n w:=by
 rcases h with⟨rfl,c,rfl⟩ | ⟨a,c',rfl,h⟩
 . have:xs'=[]:=by
    cases xs' with
    | nil=>rfl
    | cons _ _=>simp at hl
   subst this;exact⟨rfl,rfl⟩
 . exact⟨run_firstCells_some w s n a n c' xs' hl h,rfl⟩
theorem pq {es:List Value}{s:Nat}(h:∀x∈es,x.cells.toList.length=s):(es.flatMap λu=>u.cells.toList).length=es.length*s:=by
 induction es with
 | nil=>simp
 | cons x es ih=>
   rw[List.flatMap_cons,List.length_append,h x (by simp),ih λy hy=>h y (by simp[hy]),List.length_cons,Nat.succ_mul];omega
theorem ub {es:List Value}{s:Nat}(h:∀x∈es,x.cells.toList.length=s):∀(m:Nat) (v:Value),(es.flatMap λu=>u.cells.toList)[m]? = some v->∃i j x,m=i*s+j/\es[i]? = some x/\x.cells.toList[j]? = some v:=by
 induction es with
 | nil=>intro m v hv;simp at hv
 | cons x es ih=>
   intro m v hv;rw[List.flatMap_cons]at hv;have hx:=h x (by simp)
   by_cases hm:m<x.cells.toList.length
   . rw[List.getElem?_append_left hm]at hv;exact⟨0,m,x,by omega,rfl,hv⟩
   . rw[List.getElem?_append_right (by omega),hx]at hv;obtain⟨i,j,y,h1,h2,h3⟩:=ih (λy hy=>h y (by simp[hy])) _ v hv;refine⟨i+1,j,y,?_,by simpa using h2,h3⟩;rw[hx]at hm;rw[Nat.succ_mul];omega
theorem vT (hH:HR P W φ (hp H) w){s xl:Nat}{xv x':Value}{xs:List Value}(hv:VR φ xv x')(h:nv H s xv=some (xl,xs)):
 ∃xs',LR φ xs xs'/\xs'.length=xl*s/\((xl=0/\∃c,x'= .slice none xl c)\/∃a c',x'= .slice (some a) xl c'/\∀j v,xs'[j]? = some v->w.cell? (a.add j)=some v):=by
 unfold nv at h;split at h
 . rename_i xb n xc;obtain⟨l,hl,h1⟩:=ao h;cases h1;obtain⟨xs',h2,h3,h4⟩:=po hH hv hl;refine⟨xs',h2,h3,?_⟩;rcases h4 with⟨_,h4,h5⟩ | h4
   . exact .inl ⟨h4,_,h5⟩
   . exact .inr h4
 . obtain⟨s',es,rfl,h1⟩:=gJ h;obtain⟨h2,h3⟩:=ax h1;have h2:=beq_eq h2;subst h2;cases h3;clear h h1;rcases hv.ga with⟨rfl,hy | ⟨a,c',hy⟩⟩ | ⟨k,o',c',e,c,h3,h4,h5,h6,h7,h8,hy⟩
   . exact⟨[],.nil,by simp,.inl ⟨rfl,_,hy⟩⟩
   . exact⟨[],.nil,by simp,.inr ⟨_,c',hy,λj v hj=>by simp at hj⟩⟩
   . obtain⟨el,fz,hrow⟩:=hH.jV k e c h3 h4;have hlen:=pq h5
     by_cases hne:es=[]
     . subst hne;exact⟨[],.nil,by simp,.inr ⟨_,c',hy,λj v hj=>by simp at hj⟩⟩
     . have h6:=h6 hne;refine⟨(c.toList.drop o').take (es.length*s'),⟨?_,λm a b ha hb=> ?_⟩,?_,.inr ⟨_,c',hy,lP hrow⟩⟩
       . rw[hlen];simp only[List.length_take,List.length_drop,Array.length_toList];omega
       . obtain⟨i,j,x,rfl,hi,hj⟩:=ub h5 m a ha;rw[List.getElem?_take]at hb;split at hb
         . rw[List.getElem?_drop,Array.getElem?_toList]at hb;exact h8 i j x a b hi hj (by rw[Nat.add_assoc];exact hb)
         . cases hb
       . simp only[List.length_take,List.length_drop,Array.length_toList];omega
theorem uc {e:TypeId}{s ba:Nat}(h:a_ P e s ba=true)(hs:aE P e=some s):
 ∃i z',P.info? e=some i/\i.zero=some z'/\i.size=s/\z'.cells.size=s/\0<s/\ba<=1048576/\i.bytes<=65536:=by
 unfold a_ at h;split at h
 . rename_i i z hi hz;simp only[Bool.and_eq_true]at h;obtain⟨i',z',hi',hz',hl,_⟩:=e8 hz;rw[hi]at hi';cases hi';have h1:=beq_eq h.1.1.1;refine⟨i,z',hi,hz',?_,?_,dH h.1.1.2,bU h.1.2,bU h.2⟩
   . unfold aE at hs;rw[hi]at hs;cases hs;rfl
   . rw[<- h1,<- hl];simp
 . cases h
theorem vU {d:TypeDesc}(h:∀k,d ≠ .int k):(match d with | .int _=>true | _=>false)=false:=by
 cases d<;>first | rfl | exact absurd rfl (h _)
theorem jY (t u ty e:TypeId)(i:TypeInfo){d:TypeDesc}(ht:P.underlying t=some (.slice e))(hud:P.underlying u=some d)(hd:∀k,d ≠ .int k)(hi:P.info? e=some i)(b:Addr)(sLen sCap:Nat){x:Value}{n:Nat}{xs:List Value}
 (hn:(Builtin.lenOf x).run P w= .ok n w) (hf:(Builtin.firstCells i.size n x).run P w= .ok xs.toArray w) (hle:sLen+n<=sCap) {w':World}
 (hst:(storeCells (b.add (sLen*i.size)) xs).run P w= .ok () w'):
 (Builtin.append_ #[t,u] ty #[.slice (some b) sLen sCap,x]).run P w= .ok (.slice (some b) (sLen+n) sCap) w':=by
 have hm:=vU hd;simp[Builtin.append_,run_underlying ht,run_underlying hud,hm,sizeOf,typeInfo,hi,hn,hle,hf,hst]
theorem mH (t u ty e:TypeId)(i:TypeInfo){d:TypeDesc}(ht:P.underlying t=some (.slice e))(hud:P.underlying u=some d)(hd:∀k,d ≠ .int k)(hi:P.info? e=some i){x:Value}{xs:List Value}
 (hn:(Builtin.lenOf x).run P w= .ok 0 w) (hf:(Builtin.firstCells i.size 0 x).run P w= .ok xs.toArray w):
 (Builtin.append_ #[t,u] ty #[.slice none 0 0,x]).run P w= .ok (.slice none 0 0) w:=by
 have hm:=vU hd;simp[Builtin.append_,run_underlying ht,run_underlying hud,hm,sizeOf,typeInfo,hi,hn,hf]
theorem iL (t u ty e:TypeId)(i:TypeInfo)(z:Value){d:TypeDesc}(ht:P.underlying t=some (.slice e))(hud:P.underlying u=some d)(hd:∀k,d ≠ .int k)(hi:P.info? e=some i)(hz:i.zero=some z)
 (base:Option Addr) (sLen sCap:Nat) (olds:List Value) (holds:(Builtin.firstCells i.size sLen (.slice base sLen sCap)).run P w.drew= .ok olds.toArray w.drew) {x:Value} (n:Nat) (news:List Value)
 (hn:(Builtin.lenOf x).run P w= .ok n w) (hf:(Builtin.firstCells i.size n x).run P w.drew= .ok news.toArray w.drew)
 (hg:sCap<sLen+n) (h63:((sLen+n:Nat):Int)<=9223372036854775807) (hfit:Builtin.nextslicecap (sLen+n) sCap*i.bytes<=281474976710656):
 (Builtin.append_ #[t,u] ty #[.slice base sLen sCap,x]).run P w=
  .ok (.slice (some ⟨w.heap.size,0,none⟩) (sLen+n) (grownCap w (sLen+n) sCap e))
   (w.drew.alloc (.cells ((olds++news).toArray++Builtin.zeroCells z.cells (grownCap w (sLen+n) sCap e-(sLen+n))) e)):=by
 have hm:=vU hd;have hn':¬(sLen+n<=sCap):=by omega
 have h63':¬(9223372036854775807<((sLen:Int)+(n:Int))):=by omega
 have h48':¬(281474976710656<Builtin.nextslicecap (sLen+n) sCap*i.bytes):=by omega
 simp[Builtin.append_,run_underlying ht,run_underlying hud,hm,sizeOf,typeInfo,zeroValue,hi,hz,hn,hn',h63',h48',Question.forced,hf,holds,newRow,grownCap];congr 2;apply Array.ext';simp[List.append_assoc]
theorem gd {H:T OB}{nx:Nat}{e:TypeId}{m:Nat}{l:List Value}:fZ H nx e m l= .val (.slice (some ⟨nx,0,none⟩) m eC) (set H (bits nx) (some (ca l e))) (nx+1):=by
 unfold fZ;rw[dy,aG]
theorem fm {c:Call}(hc:c.callee= .builtin .append)(ho:o.op= .call c){r:Result Value}(h:(Builtin.append_ c.argTypes o.type (c.args.map ρ)).run P w=r):
 (execOp ρ o).run P w=r.andThen λv w'=> .ok (.value v) w':=by
 subst h;simp only[execOp,ho,resolve,hc,Sem.run_bind,Sem.run_pure,Result.andThen_ok,invoke,builtin]
theorem nR (z:Array Value)(n:Nat):(Builtin.zeroCells z n).size=n*z.size:=by simp[Builtin.zeroCells]
theorem grownCap_ge (w:World)(ba old:Nat)(e:TypeId):ba<=grownCap w ba old e:=by
 unfold grownCap;simp only[Question.cut];omega
theorem xA (bt:φ.length=nx){e:TypeId}{z':Value}{s m cap:Nat}{l l':List Value}{r:Result Next}(H₁:T OB)(hH₁:HR P W φ (hp H₁) w)(hk:dU φ φ (hp H) (hp H₁))
 (hs:aE P e=some s) (hz:z'.cells.size=s) (hl:LR φ l l') (hlen:l'.length=m*s) (hm:m<=cap)
 (hr:r= .ok (.value (.slice (some ⟨w.heap.size,0,none⟩) m cap)) (w.drew.alloc (.cells (l'.toArray++Builtin.zeroCells z'.cells (cap-m)) e))):
 gr P W φ H w r (.slice (some ⟨nx,0,none⟩) m eC) (set H₁ (bits nx) (some (ca l e))) (nx+1):=by
 subst bt;refine⟨_,_,_,_,hr,.inl rfl,.slice (gM φ w.heap.size (l'.toArray++Builtin.zeroCells z'.cells (cap-m)).size s) (.inr ⟨rfl,hm,?_⟩),ja _ _ _ _,?_,gL _ _ _ _,?_⟩
 . simp only[Array.size_append,List.size_toArray,nR,hz,hlen];rw[<- Nat.add_mul];rw[show m+(cap-m)=cap from by omega];omega
 . rw[aU];exact hH₁.drew.fresh _ (rM (w:=w.drew) hl e e _ (λz h=>by rw[hs]at h;cases h;rfl) hH₁.below.drew)
 . rw[aU];exact hk.trans (fK _ _ _ _ _ _)
theorem Hi (hH:HR P W φ (hp H) w)(bt:φ.length=nx){c:Call}(hc:c.callee= .builtin .append)(ho:o.op= .call c){t u e:TypeId}{s sl sc xl:Nat}{base:Option Addr}{sv xv:Value}{xs xs':List Value}
 (hty:c.argTypes=#[t,u]) (hargs:c.args.map ρ=#[sv,xv]) (hsv:VR φ (.slice base sl sc) sv) (hu:P.underlying t=some (.slice e)) (hux:∃d,P.underlying u=some d/\∀k,d ≠ .int k) (hs:aE P e=some s)
 (hsm:a_ P e s (sl+xl)=true) (hx1:LR φ xs xs') (hx2:xs'.length=xl*s) (hlx:∀w',(Builtin.lenOf xv).run P w'= .ok xl w') (hfx:(Builtin.firstCells s xl xv).run P w= .ok xs'.toArray w)
 (hfxd:(Builtin.firstCells s xl xv).run P w.drew= .ok xs'.toArray w.drew) (h:pc P H nx e s base sl sc xl xs= .val v H' nx'):gr P W φ H w ((execOp ρ o).run P w) v H' nx':=by
 obtain⟨i,z',hi,hz,his,hzs,h0,hneed,hby⟩:=uc hsm hs;obtain⟨dd,hud,hdd⟩:=hux;rw[<- his]at hfx hfxd;have h48:∀old,old<sl+xl->Builtin.nextslicecap (sl+xl) old*i.bytes<=281474976710656:=λold hold=>
  growslice_fits hold (Nat.le_trans (Nat.mul_le_mul hneed hby) (by decide))
 cases base with
 | none=>
   have hsv:=hsv.al rfl;subst hsv;obtain⟨hb,h'⟩:=cf (show(bif Nat.beq sl 0&&Nat.beq sc 0 then(bif Nat.beq xl 0 then dG.val (.slice none 0 0) H nx else fZ H nx e xl xs)else .bad)= .val v H' nx' from h);simp only[Bool.and_eq_true]at hb;have hb1:=beq_eq hb.1;have hb2:=beq_eq hb.2;subst hb1 hb2;cases hx0:Nat.beq xl 0 with
   | true=>
     rw[hx0]at h';have h':dG.val (.slice none 0 0) H nx= .val v H' nx':=h';cases h';have hx0:=beq_eq hx0;subst hx0;refine⟨φ,.slice none 0 0,w,.value (.slice none 0 0),?_,.inl rfl,.flat _ rfl,φ.le_refl,hH,bt,dU.refl _ _⟩;rw[fm hc ho (r:= .ok (.slice none 0 0) w) ?_]
     . rfl
     . rw[hty,hargs];exact mH t u o.type e i hu hud hdd hi (hlx w) hfx
   | false=>
     rw[hx0]at h';have h':fZ H nx e xl xs= .val v H' nx':=h';rw[gd]at h';cases h';have hx0:0<xl:=by
      rcases Nat.eq_zero_or_pos xl with q | q
      . subst q;cases hx0
      . exact q
     refine xA bt H hH (dU.refl _ _) hs hzs hx1 hx2 (grownCap_ge w xl 0 e) ?_;rw[fm hc ho rfl,hty,hargs];have h5:=iL (P:=P) (w:=w) t u o.type e i z' hu hud hdd hi hz none 0 0 [] rfl xl xs' (hlx w) hfxd (by omega) (by omega) (h48 0 (by omega));rw[Nat.zero_add,List.nil_append]at h5;rw[h5];rfl
 | some a0=>
   obtain⟨b,off,sp⟩:=a0;obtain⟨en,c0,hb,rfl,rfl,hcap⟩:=hsv.dQ;have h:cP (H.get (bits b)) (λn tr el=>bif Nat.beq sc eC then K6 P H nx e s b off sl xl n tr xs
    else bif Nat.ble (sl+xl) sc then AF H nx s b off sl sc xl n tr el xs else me H nx e s off sl xl n tr xs) .bad= .val v H' nx':=h
   obtain⟨n,tr,el,hg,h⟩:=nQ h;obtain⟨cr,elr,hrow,hrsz,hrn,nS⟩:=hH.cells hg hb;have grow:∀(H₁:T OB) (old:List Value),HR P W φ (hp H₁) w->dU φ φ (hp H) (hp H₁)->mQ tr (sl*s) off=some old->off+sl*s<=n->c0<sl+xl->0<xl->
    gr P W φ H w ((execOp ρ o).run P w) (.slice (some ⟨nx,0,none⟩) (sl+xl) eC) (set H₁ (bits nx) (some (ca (old++xs) e))) (nx+1):=by
    intro H₁ old hH₁ hk hold hle hlt hx0;obtain⟨ho1,ho2⟩:=j8 nS hold hle (by omega);have holds:=run_firstCells_some (P:=P) w.drew i.size sl ⟨en.r,off,none⟩ sl c0 _ (by rw[<- ho1.len,ho2,his]) (lP (w:=w.drew) (s:=sl*s) hrow);refine xA bt H₁ hH₁ hk hs hzs (ho1.append hx1) ?_ (grownCap_ge w (sl+xl) c0 e) ?_
    . rw[List.length_append,<- ho1.len,ho2,hx2,Nat.add_mul]
    . rw[fm hc ho rfl,hty,hargs,iL (P:=P) (w:=w) t u o.type e i z' hu hud hdd hi hz (some ⟨en.r,off,none⟩) sl c0 _ holds xl xs' (hlx w) hfxd hlt (by omega) (h48 c0 hlt)];rfl
   cases hsc:Nat.beq sc eC with
   | true=>
     rw[hsc]at h;have h:K6 P H nx e s b off sl xl n tr xs= .val v H' nx':=h;have hsc:=beq_eq hsc;rcases hcap with⟨q,_⟩ | ⟨_,hcl,hcb⟩
     . exact absurd hsc q
     unfold K6 at h;obtain⟨hq,h⟩:=cf h;obtain⟨old,hold,h⟩:=bz h;rw[aA,gd]at h;cases h;simp only[Bool.and_eq_true]at hq;have hoff:=beq_eq hq.1.1.1;have hsn:=bU hq.1.1.2;subst hoff;have hes:en.es=s:=by
      have h15:=hq.1.2;unfold o9 at h15;rw[hg]at h15;have h15:af (aE P el) (λz=>Nat.beq z s) false=true:=h15;cases hz:aE P el with
      | none=>rw[hz]at h15;cases h15
      | some z=>
        rw[hz]at h15;have h15:Nat.beq z s=true:=h15;have:=beq_eq h15;subst this;exact hH.es (show hp H b=some (.cells n tr el)from hg) hb z hz
     have hkill:HR P W φ (hp (set H (bits b) (some .dead))) w:=by rw[aU];exact hH.kill (show hp H b=some (.cells n tr el)from hg) hb
     have hkeep:dU φ φ (hp H) (hp (set H (bits b) (some .dead))):=λk hk=>⟨hk,by
      rw[aU,az];intro q;subst q;rw[hb]at hk;cases hk⟩
     by_cases hfit:sl+xl<=c0
     . -- in place: the new block of ours over the old row
       obtain⟨ho1,ho2⟩:=j8 nS hold (by omega) (by omega);have hle1:(sl+xl)*s<=en.sz:=by
        have:(sl+xl)*s<=c0*s:=Nat.mul_le_mul_right s hfit;rw[hes]at hcb;omega
       rw[Nat.add_mul]at hle1;obtain⟨hab,_,_⟩:=hH.obj b _ en (show hp H b=some (.cells n tr el)from hg) hb;have hAl:=hkill.alias (e:=en) (ob:= .cells en.sz (dw old 0 .leaf) e) (hH.lz b en hb) (λk ob x hgk hlk hφk hr=>by
        rw[aU]at hgk
        by_cases hkb:k=b
        . subst hkb;rw[bT]at hgk;cases hgk;cases hlk
        . rw[az _ hkb]at hgk;exact hkb (hH.inj k b _ _ x en hφk hb hgk (show hp H b=some (.cells n tr el)from hg) hlk rfl hr))
        (by
         cases hz:en.fz with
         | none=>rfl
         | some cz=>exact absurd rfl (hH.nK b b en en cz _ hb hz hb (show hp H b=some (.cells n tr el)from hg) rfl))
        (λk x cz hx hz=>hH.nK k b x en cz _ hx hz hb (show hp H b=some (.cells n tr el)from hg) rfl) ⟨hab,⟨cr,elr,hrow,hrsz,Nat.le_refl _,λj hj v hv=>by
        rw[cB]at hv;split at hv
        . rename_i hjl;have hj2:j<sl*s:=by omega
          have h3:=(nD tr (sl*s) 0 old hold).2 j hj2;rw[Nat.zero_add]at h3;rw[Nat.sub_zero]at hv;rw[hv]at h3;exact nS j (by omega) v h3
        . rw[gI]at hv;cases hv⟩,λz hz=>by rw[hs]at hz;cases hz;exact hes⟩
       obtain⟨w',hrun,hH2⟩:=eK (φ:=φ++[some en]) (b:=φ.length) (n:=en.sz) (el:=e) (e:=en) (dI φ _) xs xs' (sl*s) 0 _ w _ hAl (bT _ _ _) (hx1.mono (bS φ _)) hq.2 (by rw[hx1.len,hx2];omega);rw[kO,Nat.add_zero]at hH2;have hH3:=hH2.I3 (k:=φ.length) (n':=(old++xs).length) (t':=dw (old++xs) 0 .leaf) (bT _ _ _) (dI φ _) (by rw[List.length_append,ho2,hx1.len,hx2];omega) (λj hj=>by
        rw[cB,cB,if_pos (by omega),Nat.sub_zero];rw[List.length_append,ho2]at hj
        by_cases hjs:j<sl*s
        . rw[if_neg (by omega),List.getElem?_append_left (by omega),cB,if_pos (by omega),Nat.sub_zero]
        . rw[if_pos (by omega),List.getElem?_append_right (by omega),ho2])
       rw[kO]at hH3;subst bt;refine⟨φ++[some en],.slice (some ⟨en.r,0,none⟩) (sl+xl) c0,w',.value (.slice (some ⟨en.r,0,none⟩) (sl+xl) c0),?_,.inl rfl,.slice (dI φ _) (.inr ⟨rfl,hfit,hcb⟩),bS φ _,?_,by simp,?_⟩
       . rw[fm hc ho (r:= .ok (.slice (some ⟨en.r,0,none⟩) (sl+xl) c0) w') ?_]
         . rfl
         . rw[hty,hargs];refine jY t u o.type e i hu hud hdd hi ⟨en.r,0,none⟩ sl c0 (hlx w) hfx hfit ?_;rw[cq,his,Nat.zero_add];exact hrun
       . rw[aU];exact hH3
       . rw[aU];refine hkeep.trans (λk hk=>⟨?_,az _ ?_ _⟩)
         . rw[List.getElem?_append_left (List.getElem?_eq_some_iff.1 hk).1];exact hk
         . have:=(List.getElem?_eq_some_iff.1 hk).1;omega
     . exact grow _ old hkill hkeep hold (by omega) (by omega) (by omega)
   | false=>
     rw[hsc]at h;have hne:sc≠eC:=λq=>by rw[q]at hsc;exact absurd (Nat.beq_refl eC) (by rw[hsc];decide)
     have hc0:c0=sc:=by
      rcases hcap with⟨_,q⟩ | ⟨q,_⟩
      . exact q
      . exact absurd q hne
     subst hc0;have h:(bif Nat.ble (sl+xl) c0 then AF H nx s b off sl c0 xl n tr el xs else me H nx e s off sl xl n tr xs)= .val v H' nx':=h;cases hle:Nat.ble (sl+xl) c0 with
     | true=>
       rw[hle]at h;have h:AF H nx s b off sl c0 xl n tr el xs= .val v H' nx':=h;have hle:=bU hle;unfold AF at h;obtain⟨hq,h⟩:=cf h;rw[cc,aA,aG]at h;cases h;simp only[Bool.and_eq_true]at hq;have hin:=bU hq.1;have hmul:(sl+xl)*s<=c0*s:=Nat.mul_le_mul_right s hle;rw[Nat.add_mul]at hmul;obtain⟨w',hrun,hH2⟩:=eK hb xs xs' (off+sl*s) 0 (hp H) w tr hH hg hx1 hq.2 (by rw[hx1.len,hx2];omega);refine⟨φ,.slice (some ⟨en.r,off,none⟩) (sl+xl) c0,w',.value (.slice (some ⟨en.r,off,none⟩) (sl+xl) c0),?_,.inl rfl,.slice hb (.inl ⟨hne,rfl⟩),φ.le_refl,?_,bt,?_⟩
       . rw[fm hc ho (r:= .ok (.slice (some ⟨en.r,off,none⟩) (sl+xl) c0) w') ?_]
         . rfl
         . rw[hty,hargs];refine jY t u o.type e i hu hud hdd hi ⟨en.r,off,none⟩ sl c0 (hlx w) hfx hle ?_;rw[cq,his];exact hrun
       . rw[aU];exact hH2
       . intro k hk;refine⟨hk,?_⟩;rw[aU,az];intro q;subst q;rw[hb]at hk;cases hk
     | false=>
       rw[hle]at h;have h:me H nx e s off sl xl n tr xs= .val v H' nx':=h;have hlt:c0<sl+xl:=by
        rcases Nat.lt_or_ge c0 (sl+xl)with q | q
        . exact q
        . exact absurd (Nat.ble_eq_true_of_le q) (by rw[hle];decide)
       unfold me at h;obtain⟨hq,h⟩:=cf h;obtain⟨old,hold,h⟩:=bz h;rw[gd]at h;cases h;simp only[Bool.and_eq_true]at hq;exact grow H old hH (dU.refl _ _) hold (bU hq.1) hlt (dH hq.2)
theorem AR (hH:HR P W φ (hp H) w)(bt:φ.length=nx){c:Call}(hc:c.callee= .builtin .append)(ho:o.op= .call c)(hE:lA P φ tm ρ c.args.toList)
 (h:cw P H nx c.argTypes.toList (mG P tm c.args.toList)= .val v H' nx'):gr P W φ H w ((execOp ρ o).run P w) v H' nx':=by
 have two:∀{a b:Value},mG P tm c.args.toList=some [a,b]->∃sv xv,VR φ a sv/\VR φ b xv/\c.args.map ρ=#[sv,xv]:=by
  intro a b hevs;have hLRa:=lJ _ _ hE hevs;obtain⟨sv,m1,hm1,hsv,hrest⟩:=hLRa.inv;obtain⟨xv,m2,hm2,hxv,hrest⟩:=hrest.inv;have hm3:=hrest.jy;subst hm3;subst hm2;exact⟨sv,xv,hsv,hxv,Array.ext' (by rw[Array.toList_map];exact hm1)⟩
 have tys:∀{t u:TypeId},c.argTypes.toList=[t,u]->c.argTypes=#[t,u]:=λ{t u} q=>by
  have:c.argTypes.toList.toArray=#[t,u]:=by rw[q]
  simpa using this
 unfold cw at h;split at h
 . rename_i base sl sc b t u hevs htys;obtain⟨sv,xv,hsv,hxv,hargs⟩:=two hevs;have hxv:=hxv.al rfl;subst hxv;obtain⟨hst,h⟩:=cf h;obtain⟨e,s,hu,hs,h⟩:=gb h;obtain⟨hsm,h⟩:=cf h;simp only[Bool.and_eq_true]at hsm;have hs1:=beq_eq hsm.2;subst hs1;have hud:∃d,P.underlying u=some d/\∀k,d ≠ .int k:=by
    unfold BF at hst;split at hst
    . rename_i q;exact⟨_,q,λk=>by simp⟩
    . cases hst
   have hfc:∀w',(Builtin.firstCells 1 b.size (.string b)).run P w'= .ok (b.data.toList.map λx=>Value.int .u8 (.ofNat x.toNat)).toArray w':=λw'=>by
    simp[Builtin.firstCells];exact Array.ext' (by simp)
   refine Hi hH bt hc ho (xv:= .string b) (xs:=b.data.toList.map λx=> .int .u8 (.ofNat x.toNat)) (tys htys) hargs hsv hu hud hs hsm.1 (LR.of_flat (λx hx=> ?_)) ?_ (λw'=>rfl) (hfc w) (hfc w.drew) h
   . obtain⟨y,_,rfl⟩:=List.mem_map.1 hx;rfl
   . simp
 . unfold kF at h;split at h
   case h_2=>cases h
   rename_i base sl sc xv0 t u hevs htys;obtain⟨sv,xv,hsv,hxv,hargs⟩:=two hevs;cases htu:Nat.beq t u with
   | false=>rw[htu]at h;cases h
   | true=>
     rw[htu]at h;have htu:=beq_eq htu;subst htu;have h:cC P t (λe s=>af (nv H s xv0) (λp=>bif a_ P e s (sl+p.1)then pc P H nx e s base sl sc p.1 p.2 else .bad) .bad) .bad= .val v H' nx':=h;obtain⟨e,s,hu,hs,h⟩:=gb h;obtain⟨⟨xl,xs⟩,hxs,h⟩:=bz h;obtain⟨hsm,h⟩:=cf h;obtain⟨xs',hx1,hx2,hx3⟩:=vT hH hxv hxs;obtain⟨hfx,hlx⟩:=jX (P:=P) hx2 hx3;have hx3':(xl=0/\∃c,xv= .slice none xl c)\/∃a c',xv= .slice (some a) xl c'/\∀j v,xs'[j]? = some v->w.drew.cell? (a.add j)=some v:=hx3;obtain⟨hfxd,_⟩:=jX (P:=P) (w:=w.drew) hx2 hx3';have hl:∀w',(Builtin.lenOf xv).run P w'= .ok xl w':=λw'=>by
      rcases hx3 with⟨_,c,rfl⟩ | ⟨a,c',rfl,_⟩<;>rfl
     exact Hi hH bt hc ho (tys htys) hargs hsv hu ⟨_,hu,λk=>by simp⟩ hs hsm hx1 hx2 hl hfx hfxd h
end ops
end
section
variable {P:Program}{W w:World}{φ:bO}{H:T OB}{tm:T Value}{ρ:Operand->Value}{g:Nat->Option OB}
section ops
variable {o:Oper}{v:Value}{H':T OB}{nx nx':Nat}
theorem vV (hH:HR P W φ (hp H) w)(bt:φ.length=nx){t:TypeId}(ho:o.op= .makeMap t none)
 (h:(cm (bits nx) H (some (.map [] 0)) λH=>bD (Nat.succ nx) λn=>dG.val (.map (some nx)) H n)= .val v H' nx'):gr P W φ H w ((execOp ρ o).run P w) v H' nx':=by
 rw[aA,aG]at h;cases h;subst bt;refine⟨fresh φ w.heap.size 0 0,.map (some w.heap.size),w.alloc (.map #[] 0),.value (.map (some w.heap.size)),?_,.inl rfl,.map (gM φ _ _ _),ja _ _ _ _,?_,gL _ _ _ _,?_⟩
 . simp[execOp,ho,Instr.makeMap]
 . rw[aU];exact hH.fresh _ ⟨hH.below.size,#[],Go.heap_alloc_new w _,.nil⟩
 . rw[aU];exact fK _ _ _ _ _ _
theorem jZ (hH:HR P W φ (hp H) w)(bt:φ.length=nx){m m':Option Nat}{c:Nat}(hm:vI φ m m'){r:Result Next}
 (hr:r= .ok (.value (.pointer (some ⟨w.heap.size,0,none⟩))) (w.alloc (.mapIter m' c #[] c))) (h:jx H nx m c= .val v H' nx'):gr P W φ H w r v H' nx':=by
 unfold jx at h;rw[aA,aG]at h;cases h;subst bt;refine⟨fresh φ w.heap.size 0 0,_,_,_,hr,.inl rfl,.ptr (gM φ _ _ _),ja _ _ _ _,?_,gL _ _ _ _,?_⟩
 . rw[aU];exact hH.fresh _ ⟨hH.below.size,m',#[],Go.heap_alloc_new w _,rfl,hm⟩
 . rw[aU];exact fK _ _ _ _ _ _
theorem kR {x:Option OB}{k:List MapEntry->Nat->dG}{v:Value}{H':T OB}{nx':Nat}(h:tK x k .bad= .val v H' nx'):∃es c,x=some (.map es c)/\k es c= .val v H' nx':=by
 unfold tK at h;split at h
 . exact⟨_,_,rfl,h⟩
 . cases h
theorem qu {x:Option OB}{k:Option Nat->Nat->List Nat->Nat->dG}{v:Value}{H':T OB}{nx':Nat}(h:nw x k .bad= .val v H' nx'):
 ∃m s l c,x=some (.iter m s l c)/\k m s l c= .val v H' nx':=by
 unfold nw at h;split at h
 . exact⟨_,_,_,_,rfl,h⟩
 . cases h
theorem AS {t:TypeId}{k:TypeDesc->TypeId->dG}{v:Value}{H':T OB}{nx':Nat}(h:mc P t k .bad= .val v H' nx'):
 ∃kt et d,P.underlying t=some (.map kt et)/\P.underlying kt=some d/\kD d=true/\k d et= .val v H' nx':=by
 unfold mc at h;split at h
 . rename_i kt et hu;obtain⟨d,h1,h2⟩:=bz h;obtain⟨h3,h4⟩:=cf h2;exact⟨kt,et,d,hu,h1,h3,h4⟩
 . cases h
theorem BZ (hH:HR P W φ (hp H) w)(bt:φ.length=nx){t:TypeId}{x:Operand}(ho:o.op= .range t x)(hE:∀v,aS P tm x=some v->VR φ v (ρ x))
 (h:ru P H nx t (aS P tm x)= .val v H' nx'):gr P W φ H w ((execOp ρ o).run P w) v H' nx':=by
 unfold ru at h;obtain⟨ht,h⟩:=cf h;unfold BE at ht;split at ht
 . rename_i kt et hu;split at h
   . rename_i hx;have hx':=(hE _ hx).al rfl;refine jZ (m':=none) hH bt (show vI φ none none from trivial) ?_ h;simp[execOp,ho,hx',Instr.range,aK hu]
   . rename_i b hx;obtain⟨e,hb,hx'⟩:=(hE _ hx).kI;obtain⟨es,c,hg,h⟩:=kR h;obtain⟨_,es',hr,hml⟩:=hH.obj b _ e (show hp H b=some (.map es c)from hg) hb;refine jZ (m':=some e.r) hH bt (show vI φ (some b) (some e.r)from⟨e,hb,rfl⟩) ?_ h;simp[execOp,ho,hx',Instr.range,aK hu,MapKept.run_getObj_map hr]
   . cases h
 . cases ht
theorem j9 {w:World}{r:Nat}{o o':Obj}(hr:w.heap[r]? = some o)(hn:∀c e f,o ≠ .cells c e f):(setObj r o').run P w= .ok () { w with heap:=w.heap.setIfInBounds r o' }:=by
 unfold Go.setObj;cases o with
 | cells c e f=>exact absurd rfl (hn _ _ _)
 | _=>simp only[Sem.run,hr]
theorem db {w:World}{r:Nat}{o:Obj}(hr:w.heap[r]? = some o)(hn:∀c e f,o ≠ .cells c e f):(getObj r).run P w= .ok o w:=by
 unfold getObj;cases o with
 | cells c e f=>exact absurd rfl (hn _ _ _)
 | _=>simp only[Sem.run,hr]
theorem HR.setObj (hH:HR P W φ g w){b:Nat}{ob0 ob':OB}{e:ft}(hg:g b=some ob0)(hl:live ob0=true)(hb:φ[b]? = some (some e))(o':Obj)
 (hob:tX P W φ ob' e { w with heap:=w.heap.setIfInBounds e.r o' }):HR P W φ (lH g b (some ob')) { w with heap:=w.heap.setIfInBounds e.r o' }:=by
 have hab:=tX.Lr hl (hH.obj b ob0 e hg hb);refine hH.put hg hl hb ?_ (by simp) (λr hr=>Array.getElem?_setIfInBounds_ne (λq=>hr q.symm)) hob;exact hH.below.trans ⟨rfl,rfl,rfl,by simp,λk hk=>Array.getElem?_setIfInBounds_ne (by omega)⟩
theorem heap_set {w:World}{r:Nat}{o o':Obj}(hr:w.heap[r]? = some o):({ w with heap:=w.heap.setIfInBounds r o' }:World).heap[r]? = some o':=
 Array.getElem?_setIfInBounds_self_of_lt (Array.getElem?_eq_some_iff.1 hr).1
theorem ud {b:Nat}{e:ft}(hb:φ[b]? = some (some e))(x:Option OB):dU φ φ g (lH g b x):=λk hk=>⟨hk,az g (λq=>by subst q;rw[hb]at hk;cases hk) x⟩
theorem mf.length {l l':List MapEntry}(h:mf φ l l'):l'.length=l.length:=by
 induction h with
 | nil=>rfl
 | cons _ _ ih=>simp[ih]
theorem mf.append {a a' b b':List MapEntry}(h:mf φ a a')(h':mf φ b b'):mf φ (a++b) (a'++b'):=by
 induction h with
 | nil=>exact h'
 | cons h _ ih=>exact .cons h ih
theorem mf.modify {k k' v v':Value}(hk:VR φ k k')(hv:VR φ v v'){l l':List MapEntry}(h:mf φ l l'):∀i,mf φ (l.modify i λe=>{ e with key:=k,val:=v }) (l'.modify i λe=>{ e with key:=k',val:=v' }):=by
 induction h with
 | nil=>intro i;cases i<;>exact .nil
 | @cons e e' l l' he hl ih=>
   intro i;cases i with
   | zero=>exact .cons ⟨hk,hv,he.born⟩ hl
   | succ i=>exact .cons he (ih i)
theorem ml {d:TypeDesc}{k:Value}:∀(l:List MapEntry) (i j:Nat) (v:Value),Instr.findNow d k l i=some (some (j,v))->∃n e,j=i+n/\l[n]? = some e/\Instr.sameNow d k e.key=some true
 | [],i,j,v,h=>by cases h
 | e::l,i,j,v,h=>by
   unfold Instr.findNow at h;cases hs:Instr.sameNow d k e.key with
   | none=>rw[hs]at h;cases h
   | some b=>
     rw[hs]at h;cases b with
     | true=>cases h;exact⟨0,e,rfl,rfl,hs⟩
     | false=>
       obtain⟨n,e',h1,h2,h3⟩:=ml l (i+1) j v h;exact⟨n+1,e',by omega,by simpa using h2,h3⟩
theorem bytes_beq {a b:ByteArray}(h:(a == b)=true):(b == a)=true:=by
 have:a=b:=by
  cases a;cases b;exact congrArg _ (eq_of_beq h)
 subst this;exact h
theorem ue {d:TypeDesc}{k a:Value}(h:Instr.sameNow d k a=some true)(n:Nat):Instr.sameBits (n+1) a k=true:=by
 unfold Instr.sameNow at h;split at h
 . split at h
   . rename_i hk;subst hk;injection h with h
     have:=beq_iff_eq.1 h;subst this;simp[Instr.sameBits]
   . cases h
 . injection h with h
   simp only[Instr.sameBits];exact bytes_beq h
 . injection h with h
   have:=beq_iff_eq.1 h;subst this;simp[Instr.sameBits]
 . cases h
theorem kS (hH:HR P W φ (hp H) w)(bt:φ.length=nx){t:TypeId}{m k x:Operand}(ho:o.op= .mapUpdate t m k x)(hE:lA P φ tm ρ [m,k,x])
 (h:f_ P H nx t (aS P tm m) (aS P tm k) (aS P tm x)= .val v H' nx'):gr P W φ H w ((execOp ρ o).run P w) v H' nx':=by
 unfold f_ at h;obtain⟨kt,et,d,hu,hd,hkk,h⟩:=AS h;obtain⟨b,hm,h⟩:=bz h;obtain⟨kv,hk,h⟩:=bz h;obtain⟨xv,hx,h⟩:=bz h;obtain⟨es,c,hg,h⟩:=kR h;have hm':aS P tm m=some (.map (some b)):=by
  unfold Hc at hm;split at hm
  . rename_i q;cases hm;exact q
  . cases hm
 obtain⟨e,hb,hmr⟩:=(hE m (by simp) _ hm').kI;have hkv:=hE k (by simp) kv hk;have hxv:=hE x (by simp) xv hx;have hgb:hp H b=some (.map es c):=hg;obtain⟨hab,es',hr,hml⟩:=hH.obj b _ e hgb hb;have hnc:∀c' e' f,Obj.map es' c ≠ .cells c' e' f:=λ_ _ _=>by simp
 cases hf:Instr.findNow d kv es 0 with
 | none=>rw[hf]at h;cases h
 | some r=>
   rw[hf]at h;obtain⟨r',hf',hfr⟩:=nN hkv hml 0 r hf;have hfk:=run_findKey hd hf' w;have fin:∀(nes:List MapEntry) (nes':Array MapEntry) (nc:Nat),mf φ nes nes'.toList->(execOp ρ o).run P w= .ok .skip { w with heap:=w.heap.setIfInBounds e.r (.map nes' nc) }->
    gr P W φ H w ((execOp ρ o).run P w) undef (set H (bits b) (some (.map nes nc))) nx:=λnes nes' nc hn hrun=>
    ⟨φ,undef,_,.skip,hrun,.inr ⟨rfl,rfl⟩,.flat _ rfl,φ.le_refl,by rw[aU];exact hH.setObj hgb rfl hb _ ⟨hab,nes',heap_set hr,hn⟩,bt,by rw[aU];exact ud hb _⟩
   cases hfr with
   | @some i u u' hu'=>
     have h:(cm (bits b) H (some (.map (es.modify i λe=>{ e with key:=kv,val:=xv }) c)) λH=>dG.val undef H nx)= .val v H' nx':=h;rw[aA]at h;cases h;refine fin _ (es'.modify i λe=>{ e with key:=ρ k,val:=ρ x }) c (by rw[Array.toList_modify];exact hml.modify hkv hxv i) ?_;obtain⟨n,en,hn1,hn2,hn3⟩:=ml _ _ _ _ hf';rw[Nat.zero_add]at hn1;subst hn1;have hkey:(Instr.keyThatStays (((es'[i]?).map (·.key)).getD (ρ k)) (ρ k)).run P w= .ok (ρ k) w:=by
      have h1:es'[i]? = some en:=by simpa using hn2
      rw[h1];simp only[Option.map_some,Option.getD_some,Instr.keyThatStays,ue hn3 9999,if_true];rfl
     simp only[execOp,ho,hmr,Instr.mapUpdate,Sem.run_bind,aK hu,Result.andThen_ok,db hr hnc,run_checkKey hd hkk,hfk,hkey,j9 hr hnc];rfl
   | none=>
     have h:(bD (Nat.succ c) λc'=>cm (bits b) H (some (.map (es++[⟨kv,xv,c⟩]) c')) λH=>dG.val undef H nx)= .val v H' nx':=h;rw[aG,aA]at h;cases h;refine fin _ (es'.push { key:=ρ k,val:=ρ x,born:=c }) (c+1) (by rw[Array.toList_push];exact hml.append (.cons ⟨hkv,hxv,rfl⟩ .nil)) ?_;simp only[execOp,ho,hmr,Instr.mapUpdate,Sem.run_bind,aK hu,Result.andThen_ok,db hr hnc,run_checkKey hd hkk,hfk,j9 hr hnc];rfl
theorem mf.filter {l l':List MapEntry}(h:mf φ l l')(p:Nat->Bool):mf φ (l.filter λe=>p e.born) (l'.filter λe=>p e.born):=by
 induction h with
 | nil=>exact .nil
 | @cons e e' l l' he hl ih=>
   simp only[List.filter_cons,he.born];split
   . exact .cons he ih
   . exact ih
theorem mf.all {l l':List MapEntry}(h:mf φ l l')(p:Nat->Bool):(l'.all λe=>p e.born)=(l.all λe=>p e.born):=by
 induction h with
 | nil=>rfl
 | cons he _ ih=>simp only[List.all_cons,he.born,ih]
theorem Fe (hH:HR P W φ (hp H) w)(bt:φ.length=nx){x:Operand}{isS:Bool}(ho:o.op= .next x isS)(hE:∀v,aS P tm x=some v->VR φ v (ρ x))
 (h:vB H nx (aS P tm x) isS= .val v H' nx'):gr P W φ H w ((execOp ρ o).run P w) v H' nx':=by
 unfold vB at h;cases isS with
 | true=>cases h
 | false=>
   have h:tD (aS P tm x) (λr off=>bif Nat.beq off 0 then nw (H.get (bits r)) (λm since seen last=>match m with
    | none=>dG.val (.tuple #[.bool false]) H nx
    | some m=>p_ H nx r m since last seen) .bad else .bad) .bad= .val v H' nx':=h
   obtain⟨r,off,hx,h⟩:=nP h;obtain⟨h0,h⟩:=cf h;have h0:=beq_eq h0;subst h0;obtain⟨m,since,seen,last,hg,h⟩:=qu h;obtain⟨e,hb,_,hxr⟩:=(hE _ hx).dx;have hgb:hp H r=some (.iter m since seen last):=hg;obtain⟨hab,m',seen',hr,hseen,hmn⟩:=hH.obj r _ e hgb hb;have hnc:∀c' e' f,Obj.mapIter m' since seen' last ≠ .cells c' e' f:=λ_ _ _=>by simp
   have over:(execOp ρ o).run P w= .ok (.value (.tuple #[.bool false])) w->gr P W φ H w ((execOp ρ o).run P w) (.tuple #[.bool false]) H nx:=λhrun=>
    ⟨φ,_,w,_,hrun,.inl rfl,.flat _ rfl,φ.le_refl,hH,bt,dU.refl _ _⟩
   cases m with
   | none=>
     cases m' with
     | some _=>exact hmn.elim
     | none=>
       have h:dG.val (.tuple #[.bool false]) H nx= .val v H' nx':=h;cases h;refine over ?_;simp only[execOp,ho,hxr,Instr.next,Sem.run_bind,db hr hnc,Result.andThen_ok];rfl
   | some m=>
     cases m' with
     | none=>exact hmn.elim
     | some m'=>
       obtain⟨em,hbm,rfl⟩:=hmn;have h:p_ H nx r m since last seen= .val v H' nx':=h;unfold p_ at h;obtain⟨es,c,hgm,h⟩:=kR h;obtain⟨_,es',hrm,hml⟩:=hH.obj m _ em (show hp H m=some (.map es c)from hgm) hbm;have hncm:∀c' e' f,Obj.map es' c ≠ .cells c' e' f:=λ_ _ _=>by simp
       cases hbad: !seen.isEmpty && !es.isEmpty&&es.all (λe=>Nat.ble last e.born)with
       | true=>rw[hbad]at h;cases h
       | false=>
         rw[hbad]at h;have h:vA H nx r m since c seen (es.filter λe=> !seen.contains e.born)= .val v H' nx':=h;have hsn:∀b,seen'.contains b=seen.contains b:=λb=>by rw[<- hseen];simp
         have h1:seen'.isEmpty=seen.isEmpty:=by rw[<- hseen];simp
         have h2:es'.isEmpty=es.isEmpty:=by
          have hl:=hml.length;have:es'.toList.isEmpty=es.isEmpty:=by
           cases es with
           | nil=>cases hq:es'.toList with
             | nil=>rfl
             | cons a l=>rw[hq]at hl;simp at hl
           | cons a l=>cases hq:es'.toList with
             | nil=>rw[hq]at hl;simp at hl
             | cons b m=>rfl
          rw[<- this];simp
         have h3:(es'.all λe=>decide (e.born>=last))=es.all (λe=>Nat.ble last e.born):=by
          have:=hml.all (λb=>decide (b>=last));rw[<- Array.all_toList,this];congr 1;funext e;rw[Bool.eq_iff_iff];simp only[decide_eq_true_eq];exact⟨λq=>Nat.ble_eq_true_of_le q,λq=>bU q⟩
         have hcond:(!seen'.isEmpty && !es'.isEmpty&&es'.all (λe=>decide (e.born>=last)))=false:=by rw[h1,h2,h3];exact hbad
         have hcond':¬((!seen'.isEmpty && !es'.isEmpty&&es'.all (λe=>decide (e.born>=last)))=true):=by rw[hcond];decide
         have hleft:=hml.filter (λb=> !seen.contains b);have hle:es'.filter (λe=> !seen'.contains e.born)=(es'.toList.filter λe=> !seen.contains e.born).toArray:=by
          apply Array.ext';simp only[Array.toList_filter,hsn]
         generalize hL:(es'.toList.filter λe=> !seen.contains e.born)=L' at hleft hle;generalize hLo:(es.filter λe=> !seen.contains e.born)=L at hleft h;cases hleft with
         | nil=>
           have h:dG.val (.tuple #[.bool false]) H nx= .val v H' nx':=h;cases h;refine over ?_;simp only[execOp,ho,hxr,Instr.next,Sem.run_bind,db hr hnc,db hrm hncm,Result.andThen_ok];rw[if_neg hcond',hle];simp[Question.forced]
         | @cons e1 e1' l l' he1 hl=>
           cases l with
           | cons _ _=>cases h
           | nil=>
             cases hl;obtain⟨hlt,h⟩:=cf (show(bif Nat.blt e1.born since then cm (bits r) H (some (.iter (some m) since (seen++[e1.born]) c)) (λH=>dG.val (.tuple #[.bool true,e1.key,e1.val]) H nx)else .bad)= .val v H' nx' from h);rw[aA]at h;cases h;have hlt:=dH hlt;have hb1:=he1.born;have hrun:(execOp ρ o).run P w= .ok (.value (.tuple #[.bool true,e1'.key,e1'.val])) { w with heap:=w.heap.setIfInBounds e.r (.mapIter (some em.r) since (seen'.push e1'.born) c) }:=by
              have c1:¬(since<=e1'.born):=by omega
              have c2:e1'.born<since:=by omega
              simp only[execOp,ho,hxr,Instr.next,Sem.run_bind,db hr hnc,db hrm hncm,Result.andThen_ok];rw[if_neg hcond',hle];simp[Question.forced,c1,c2,j9 hr hnc]
             refine⟨φ,_,_,_,hrun,.inl rfl,(LR.cons (.flat (.bool true) rfl) (LR.cons he1.key (LR.cons he1.val LR.nil))).tuple,φ.le_refl,?_,bt,by rw[aU];exact ud hb _⟩;rw[aU];exact hH.setObj hgb rfl hb _ ⟨hab,some em.r,seen'.push e1'.born,heap_set hr,by rw[Array.toList_push,hseen,hb1],em,hbm,rfl⟩
theorem mf.find {l l':List MapEntry}(h:mf φ l l')(st:Nat){e:MapEntry}(hf:l.find? (λe=>e.born == st)=some e):∃e',l'.find? (λe=>e.born == st)=some e'/\OZ φ e e':=by
 induction h with
 | nil=>cases hf
 | @cons a a' l l' ha _ ih=>
   simp only[List.find?_cons,ha.born]at hf ⊢;cases hb:a.born == st with
   | true=>rw[hb]at hf;cases hf;exact⟨a',rfl,ha⟩
   | false=>rw[hb]at hf;exact ih hf
theorem B0 (hH:HR P W φ (hp H) w)(bt:φ.length=nx){x:Operand}(ho:o.op= .entry x)(hE:∀v,aS P tm x=some v->VR φ v (ρ x))
 (h:rA H nx (aS P tm x)= .val v H' nx'):gr P W φ H w ((execOp ρ o).run P w) v H' nx':=by
 unfold rA at h;obtain⟨r,off,hx,h⟩:=nP h;obtain⟨h0,h⟩:=cf h;have h0:=beq_eq h0;subst h0;obtain⟨m,since,seen,last,hg,h⟩:=qu h;cases m with
 | none=>cases h
 | some m=>
 rw[aw]at h;obtain⟨st,hst,h⟩:=bz h;obtain⟨es,c,hgm,h⟩:=kR h;obtain⟨hc,h9⟩:=cf h;have hc:=beq_eq hc;subst hc;obtain⟨e,hb,_,hxr⟩:=(hE _ hx).dx;obtain⟨hab,m',seen',hr,hseen,hmn⟩:=hH.obj r _ e (show hp H r=some (.iter (some m) since seen c)from hg) hb;cases m' with
 | none=>exact hmn.elim
 | some m'=>
   obtain⟨em,hbm,rfl⟩:=hmn;obtain⟨_,es',hrm,hml⟩:=hH.obj m _ em (show hp H m=some (.map es c)from hgm) hbm;have hnc:∀c' e' f,Obj.mapIter (some em.r) since seen' c ≠ .cells c' e' f:=λ_ _ _=>by simp
   have hncm:∀c' e' f,Obj.map es' c ≠ .cells c' e' f:=λ_ _ _=>by simp
   have hback:seen'.back? = some st:=by rw[<- hst,<- hseen];simp
   unfold rz at h9;cases hf:es.find? (λe=>e.born == st)with
   | none=>simp only[hf]at h9;cases h9
   | some e1=>
     simp only[hf]at h9;cases h9;obtain⟨e1',hf',he1⟩:=hml.find st hf;have hf2:es'.find? (λe=>e.born == st)=some e1':=by simpa using hf'
     refine⟨φ,_,w,_,?_,.inl rfl,(LR.cons he1.key (LR.cons he1.val LR.nil)).tuple,φ.le_refl,hH,bt,dU.refl _ _⟩;simp[execOp,ho,hxr,Instr.entry,db hr hnc,db hrm hncm,hback,hf2]
theorem nT (hH:HR P W φ (hp H) w)(bt:φ.length=nx)(hE:lA P φ tm ρ o.op.operands.toList)(h:ef P H nx tm o= .val v H' nx'):
 gr P W φ H w ((execOp ρ o).run P w) v H' nx':=by
 unfold ef at h;cases ho:o.op with
 | alloc e=>simp only[ho]at h;exact BY hH bt ho h
 | box e x=>simp only[ho]at h;exact I2 hH bt ho (λv hv=>hE x (by rw[ho];simp[Op.operands]) v hv) h
 | store t a x=>simp only[ho]at h;exact t_ hH bt ho (by rw[ho]at hE;exact hE) h
 | buildSlice t len ps=>simp only[ho]at h;exact pj hH bt ho hE h
 | makeSlice t l c=>simp only[ho]at h;exact rN hH bt ho (by rw[ho]at hE;exact hE) h
 | makeMap t r=>
   simp only[ho]at h;cases r with
   | none=>exact vV hH bt ho h
   | some x=>cases h
 | mapUpdate t m k x=>simp only[ho]at h;exact kS hH bt ho (by rw[ho]at hE;exact hE) h
 | insert t m k x=>
   simp only[ho]at h;have h2:=kS (o:={ o with op:= .mapUpdate t m k x }) hH bt rfl (by rw[ho]at hE;exact hE) h;have e:execOp ρ o=execOp ρ { o with op:= .mapUpdate t m k x }:=by simp only[execOp,ho]
   rw[e];exact h2
 | range t x=>simp only[ho]at h;exact BZ hH bt ho (λv hv=>hE x (by rw[ho];simp[Op.operands]) v hv) h
 | next x b=>simp only[ho]at h;exact Fe hH bt ho (λv hv=>hE x (by rw[ho];simp[Op.operands]) v hv) h
 | entry x=>simp only[ho]at h;exact B0 hH bt ho (λv hv=>hE x (by rw[ho];simp[Op.operands]) v hv) h
 | defer c=>
   simp only[ho]at h;unfold hJ at h;split at h<;>cases h
 | panic x=>
   simp only[ho]at h;unfold vC at h;split at h<;>cases h
 | call c=>
   simp only[ho]at h;unfold fq at h;split at h
   . unfold tI at h;split at h
     . obtain⟨l,_,h⟩:=bz h;obtain⟨_,h⟩:=cf h;cases h
     . cases h
   . rename_i hc;exact AR hH bt hc ho (λx hx v hv=>hE x (by rw[ho];simp[Op.operands,Call.operands,hc];simpa using hx) v hv) h
   . cases h
   . cases h
   . cases h
 | _=>simp only[ho]at h;cases h
theorem AT {α:Type}{x:Option α}{k:α->dG}{f:FuncId}{l:List Value}(h:af x k .bad= .call f l):∃a,x=some a/\k a= .call f l:=by
 cases x with
 | none=>cases h
 | some a=>exact⟨a,rfl,h⟩
theorem B1 {b:Bool}{x:dG}{f:FuncId}{l:List Value}(h:(bif b then x else .bad)= .call f l):b=true/\x= .call f l:=by
 cases b
 . cases h
 . exact⟨rfl,h⟩
theorem vW {f:FuncId}(h:iU P f=true):∃fn,P.funcs[f]? = some fn/\fn.body.isSome=true/\(fn.name == "runtime.NumGoroutine")=false:=by
 unfold iU at h;split at h
 . rename_i fn hfn;simp only[Bool.and_eq_true,Bool.not_eq_true']at h;exact⟨fn,hfn,h.1,h.2⟩
 . cases h
theorem kT {f:FuncId}(h:iU P f=true)(args:Array Value)(w:World):(callFunc f args).run P w= .ok (.enter f args) w:=by
 obtain⟨fn,h1,h2,h3⟩:=vW h;have h2':fn.body.isNone=false:=by cases hb:fn.body<;>simp_all
 simp only[callFunc,Sem.run_bind,run_program,Result.andThen_ok,h1];simp[h3,h2']
theorem uf {c:Call}{fv:Operand}(hE:lA P φ tm ρ (fv::c.args.toList)){f:FuncId}{l:List Value}(h:tI P (aS P tm fv) (mG P tm c.args.toList)= .call f l):
 ∃a' cap',ρ fv= .func (.func f) #[] ⟨cap'⟩/\a'=c.args.toList.map ρ/\LR φ l (a'++cap')/\iU P f=true:=by
 unfold tI at h;split at h
 . rename_i g cap hf;obtain⟨vs,hvs,h⟩:=AT h;obtain⟨hok,h⟩:=B1 h;cases h;obtain⟨cap',hv',hcap⟩:=(hE fv (by simp) _ hf).BN;have hargs:=lJ _ _ (λx hx=>hE x (by simp[hx])) hvs;exact⟨_,cap',hv',rfl,hargs.append hcap,hok⟩
 . cases h
def PL (e:dG):Prop:=match e with
 | .val _ _ _=>True
 | .bad=>True
 | _=>False
theorem bZ {α:Type}{x:Option α}{k:α->dG}(h:∀a,PL (k a)):PL (af x k .bad):=by
 cases x with
 | none=>trivial
 | some a=>exact h a
theorem ct {b:Bool}{x y:dG}(h:PL x)(h':PL y):PL (bif b then x else y):=by
 cases b
 . exact h'
 . exact h
theorem nU {H:T OB}{nx:Nat}{e:TypeId}{m:Nat}{l:List Value}:PL (fZ H nx e m l):=by rw[gd];trivial
theorem j_ {t:TypeId}{k:TypeId->Nat->dG}(h:∀e s,PL (k e s)):PL (cC P t k .bad):=by
 unfold cC;split
 . exact bZ λs=>h _ s
 . trivial
theorem qv {x:Option OB}{k:Nat->T Value->TypeId->dG}(h:∀n t e,PL (k n t e)):PL (cP x k .bad):=by
 unfold cP;split
 . exact h _ _ _
 . trivial
theorem rO {x:Option Value}{k:Nat->Nat->dG}(h:∀a b,PL (k a b)):PL (tD x k .bad):=by
 unfold tD;split
 . exact h _ _
 . trivial
theorem kU {x:Option OB}{k:List MapEntry->Nat->dG}(h:∀a b,PL (k a b)):PL (tK x k .bad):=by
 unfold tK;split
 . exact h _ _
 . trivial
theorem ug {x:Option OB}{k:Option Nat->Nat->List Nat->Nat->dG}(h:∀a b c d,PL (k a b c d)):PL (nw x k .bad):=by
 unfold nw;split
 . exact h _ _ _ _
 . trivial
theorem uh {t:TypeId}{k:TypeDesc->TypeId->dG}(h:∀a b,PL (k a b)):PL (mc P t k .bad):=by
 unfold mc;split
 . exact bZ λd=>ct (h _ _) trivial
 . trivial
theorem xB {e:TypeId}{s sl sc xl:Nat}{base:Option Addr}{xs:List Value}:PL (pc P H nx e s base sl sc xl xs):=by
 unfold pc;split
 . exact ct (ct trivial nU) trivial
 . unfold tJ;refine qv λn tr el=>ct ?_ (ct ?_ ?_)
   . unfold K6;refine ct (bZ λold=> ?_) trivial;rw[aA];exact nU
   . unfold AF;refine ct ?_ trivial;rw[cc,aA,aG]
     trivial
   . unfold me;exact ct (bZ λold=>nU) trivial
 . trivial
theorem qw {ts:List TypeId}{l:Option (List Value)}:PL (cw P H nx ts l):=by
 unfold cw;split
 . exact ct (j_ λe s=>ct xB trivial) trivial
 . unfold kF;split
   . exact ct trivial (j_ λe s=>bZ λp=>ct xB trivial)
   . trivial
theorem xC {b:Nat}{es:List MapEntry}{c:Nat}{k v:Value}{r:Option (Option (Nat×Value))}:PL (IM H nx b es c k v r):=by
 unfold IM;split
 . rw[aA];trivial
 . rw[aG,aA];trivial
 . trivial
theorem nV {m:Option Nat}{c:Nat}:PL (jx H nx m c):=by unfold jx;rw[aA,aG];trivial
theorem B2 {r m since last:Nat}{seen:List Nat}:PL (p_ H nx r m since last seen):=by
 unfold p_;refine kU λes c=>ct trivial ?_;unfold vA;split
 . trivial
 . refine ct ?_ trivial;rw[aA];trivial
 . trivial
theorem AU {es:List MapEntry}{st:Nat}:PL (rz H nx es st):=by
 unfold rz;split<;>trivial
theorem nW {c:Call}{f:FuncId}{l:List Value}(h:fq P H nx tm c= .call f l):∃fv,c.callee= .value fv/\tI P (aS P tm fv) (mG P tm c.args.toList)= .call f l:=by
 unfold fq at h;split at h
 . rename_i fv hc;exact⟨fv,hc,h⟩
 . have:=qw (P:=P) (H:=H) (nx:=nx) (ts:=c.argTypes.toList) (l:=mG P tm c.args.toList);rw[h]at this;exact this.elim
 . cases h
 . cases h
 . cases h
theorem B3 (h1:∀c,o.op ≠ .call c)(h2:∀c,o.op ≠ .defer c)(h3:∀x,o.op ≠ .panic x):PL (ef P H nx tm o):=by
 unfold ef;cases ho:o.op with
 | call c=>exact absurd ho (h1 c)
 | defer c=>exact absurd ho (h2 c)
 | panic x=>exact absurd ho (h3 x)
 | alloc e=>
   refine bZ λl=> ?_;rw[dy];trivial
 | box e x=>
   refine bZ λl=> ?_;rw[dy];trivial
 | store t a x=>
   refine rO λb off=>bZ λv=>qv λn tr e=>bZ λs=>ct ?_ trivial;rw[cc,aA];trivial
 | buildSlice t len ps=>
   refine bZ λvs=>j_ λe s=>bZ λz=>ct (bZ λcs=> ?_) trivial;rw[dy,aG];trivial
 | makeSlice t a c=>
   show PL (fi P H nx t (aS P tm a) (aS P tm c));unfold fi;split
   . rename_i i j e _ _ _;cases i with
     | negSucc i=>exact trivial
     | ofNat i=>
     cases j with
     | negSucc j=>
       show PL (fY ((i:Nat):Int) (λl=>fY (Int.negSucc j) (λc=>AE P H nx e l c) .bad) .bad);rw[ej];exact trivial
     | ofNat j=>
     show PL (fY ((i:Nat):Int) (λl=>fY ((j:Nat):Int) (λc=>AE P H nx e l c) .bad) .bad);rw[ej,ej];unfold AE;split
     . refine ct ?_ trivial;split
       . rw[aA,aG];trivial
       . refine ct ?_ trivial;rw[dy];trivial
     . trivial
   . trivial
 | makeMap t r=>
   cases r with
   | none=>
     show PL (cm (bits nx) H (some (.map [] 0)) λH=>bD (Nat.succ nx) λn=>dG.val (.map (some nx)) H n);rw[aA,aG];trivial
   | some x=>trivial
 | mapUpdate t m k x=>exact uh λd et=>bZ λb=>bZ λk=>bZ λv=>kU λes c=>xC
 | insert t m k x=>exact uh λd et=>bZ λb=>bZ λk=>bZ λv=>kU λes c=>xC
 | range t x=>
   refine ct ?_ trivial;split
   . exact nV
   . exact kU λes c=>nV
   . trivial
 | next x b=>
   refine ct trivial (rO λr off=>ct (ug λm s l c=> ?_) trivial);cases m with
   | none=>trivial
   | some m=>exact B2
 | entry x=>exact rO λr off=>ct (ug λm s l c=>bZ λm=>bZ λst=>kU λes c=>ct AU trivial) trivial
 | _=>trivial
theorem xD {e:dG}(h:ef P H nx tm o=e)(hp:¬PL e):(∃c,o.op= .call c/\fq P H nx tm c=e)\/(∃c,o.op= .defer c/\hJ (fq P H nx tm c)=e)\/
 (∃x,o.op= .panic x/\vC (aS P tm x)=e):=by
 by_cases h1:∃c,o.op= .call c
 . obtain⟨c,hc⟩:=h1;refine .inl ⟨c,hc,?_⟩;rw[<- h];unfold ef;simp only[hc]
 . by_cases h2:∃c,o.op= .defer c
   . obtain⟨c,hc⟩:=h2;refine .inr (.inl ⟨c,hc,?_⟩);rw[<- h];unfold ef;simp only[hc]
   . by_cases h3:∃x,o.op= .panic x
     . obtain⟨x,hx⟩:=h3;refine .inr (.inr ⟨x,hx,?_⟩);rw[<- h];unfold ef;simp only[hx]
     . have:=B3 (P:=P) (H:=H) (nx:=nx) (tm:=tm) (o:=o) (λc q=>h1 ⟨c,q⟩) (λc q=>h2 ⟨c,q⟩) (λc q=>h3 ⟨c,q⟩);rw[h]at this;exact absurd this hp
theorem AV {f:Option Value}{l:Option (List Value)}:(∃g a,tI P f l= .call g a)\/tI P f l= .bad:=by
 unfold tI;split
 . cases l with
   | none=>exact .inr rfl
   | some l=>
     rw[aw];rename_i g cap;cases iU P g with
     | true=>exact .inl ⟨_,_,rfl⟩
     | false=>exact .inr rfl
 . exact .inr rfl
theorem ka {c:Call}:(∀f l,fq P H nx tm c ≠ .K4 f l)/\(∀v,fq P H nx tm c ≠ .eW v)/\(fq P H nx tm c= .K5->c.callee= .builtin .recover):=by
 unfold fq;split
 . rcases AV (P:=P) (f:=aS P tm _) (l:=mG P tm c.args.toList)with⟨g,a,h⟩ | h
   . rw[h];exact⟨λ_ _ q=>(nomatch q),λ_ q=>(nomatch q),λq=>(nomatch q)⟩
   . rw[h];exact⟨λ_ _ q=>(nomatch q),λ_ q=>(nomatch q),λq=>(nomatch q)⟩
 . have:=qw (P:=P) (H:=H) (nx:=nx) (ts:=c.argTypes.toList) (l:=mG P tm c.args.toList);refine⟨λf l q=> ?_,λv q=> ?_,λq=> ?_⟩<;>(rw[q]at this;exact this.elim)
 . rename_i hc;exact⟨λ_ _ q=>(nomatch q),λ_ q=>(nomatch q),λ_=>hc⟩
 . exact⟨λ_ _ q=>(nomatch q),λ_ q=>(nomatch q),λq=>(nomatch q)⟩
 . exact⟨λ_ _ q=>(nomatch q),λ_ q=>(nomatch q),λq=>(nomatch q)⟩
theorem xE {f:FuncId}{l:List Value}(hE:lA P φ tm ρ o.op.operands.toList)(h:ef P H nx tm o= .call f l):
 ∃l',LR φ l l'/\iU P f=true/\∀w,(execOp ρ o).run P w= .ok (.enter f l'.toArray) w:=by
 obtain⟨c,ho,h⟩:∃c,o.op= .call c/\fq P H nx tm c= .call f l:=by
  rcases xD h (λq=>q)with q | ⟨c,_,q⟩ | ⟨x,_,q⟩
  . exact q
  . unfold hJ at q;split at q<;>cases q
  . unfold vC at q;split at q<;>cases q
 obtain⟨fv,hc,h⟩:=nW h;have hops:o.op.operands.toList=fv::c.args.toList:=by rw[ho];simp[Op.operands,Call.operands,hc]
 rw[hops]at hE;obtain⟨a',cap',hv',rfl,hLR,hok⟩:=uf hE h;refine⟨_,hLR,hok,λw=> ?_⟩;have e1:(c.args.map ρ++⟨cap'⟩:Array Value)=(c.args.toList.map ρ++cap').toArray:=Array.ext' (by simp);simp only[execOp,ho,resolve,hc,hv',Deferred.ofValue,Sem.run_bind,Sem.run_pure,Result.andThen_ok,invoke];simp[kT hok,e1]
def Lu (P:Program)(φ:bO)(d:FuncId×List Value)(d':Deferred):Prop:=∃a' cap',d'={ target:= .fn (.func d.1) ⟨cap'⟩,args:=a' }/\LR φ d.2 (a'.toList++cap')/\iU P d.1=true
theorem Lu.mono {φ':bO}(hle:φ.le φ'){d:FuncId×List Value}{d':Deferred}(h:Lu P φ d d'):Lu P φ' d d':=by
 obtain⟨a,b,c,d,e⟩:=h;exact⟨a,b,c,d.mono hle,e⟩
theorem I4 {f:FuncId}{l:List Value}(hE:lA P φ tm ρ o.op.operands.toList)(h:ef P H nx tm o= .K4 f l):∃d',Lu P φ (f,l) d'/\∀w,(execOp ρ o).run P w= .ok (.defer d') w:=by
 rcases xD h (λq=>q)with⟨c,_,q⟩ | ⟨c,ho,q⟩ | ⟨x,_,q⟩
 . exact absurd q (ka.1 f l)
 . unfold hJ at q;split at q
   . rename_i g a hq;cases q;obtain⟨fv,hc,hgo⟩:=nW hq;have hops:o.op.operands.toList=fv::c.args.toList:=by rw[ho];simp[Op.operands,Call.operands,hc]
     rw[hops]at hE;obtain⟨a',cap',hv',rfl,hLR,hok⟩:=uf hE hgo;refine⟨_,⟨c.args.map ρ,cap',rfl,by simpa using hLR,hok⟩,λw=> ?_⟩;simp[execOp,ho,resolve,hc,hv',Deferred.ofValue]
   . cases q
 . unfold vC at q;split at q<;>cases q
theorem B4 {v:Value}(hE:lA P φ tm ρ o.op.operands.toList)(h:ef P H nx tm o= .eW v):∃v',VR φ v v'/\∀w,(execOp ρ o).run P w= .halt (.panic v') w:=by
 rcases xD h (λq=>q)with⟨c,_,q⟩ | ⟨c,_,q⟩ | ⟨x,ho,q⟩
 . exact absurd q (ka.2.1 v)
 . unfold hJ at q;split at q<;>cases q
 . unfold vC at q;split at q
   . rename_i t u hx;cases q;obtain⟨u',h1,h2⟩:=(hE x (by rw[ho];simp[Op.operands]) _ hx).gK;exact⟨_,.iface h2,λw=>by simp[execOp,ho,h1,Instr.panic]⟩
   . cases q
theorem I5 (h:ef P H nx tm o= .K5)(w:World):(execOp ρ o).run P w= .ok .recover w:=by
 rcases xD h (λq=>q)with⟨c,ho,q⟩ | ⟨c,_,q⟩ | ⟨x,_,q⟩
 . have hc:=ka.2.2 q;simp[execOp,ho,resolve,hc,invoke,builtin]
 . unfold hJ at q;split at q<;>cases q
 . unfold vC at q;split at q<;>cases q
end ops
end
end
end Go.Ev
namespace Go.Ev
noncomputable section
set_option maxRecDepth 100000
set_option linter.unusedVariables false
set_option linter.unusedSimpArgs false
section
variable {P:Program}{H H':T OB}{tm tm':T Value}
theorem jb:∀(ps:List (Nat×Operand)),(∀p∈ps,aS P tm' p.2=aS P tm p.2)->parts P tm' ps=parts P tm ps
 | [],_=>rfl
 | p::ps,h=>by simp only[parts,h p (by simp),jb ps (λq hq=>h q (by simp[hq]))]
theorem lQ:∀(l:List Operand),(∀x∈l,aS P tm' x=aS P tm x)->mG P tm' l=mG P tm l
 | [],_=>rfl
 | x::l,h=>by simp only[mG,h x (by simp),lQ l (λy hy=>h y (by simp[hy]))]
theorem kb {x:Option Operand}(h:∀y∈x.toList,aS P tm' y=aS P tm y):eE P tm' x=eE P tm x:=by
 cases x with
 | none=>rfl
 | some y=>simp only[eE,h y (by simp)]
theorem B5 {o:Oper}(h:∀x∈o.op.operands.toList,aS P tm' x=aS P tm x):rd P H tm' o=rd P H tm o:=by
 unfold rd;cases ho:o.op with
 | move x=>simp only[ho]at h;exact h x (by simp[Op.operands])
 | assign x=>simp only[ho]at h;exact h x (by simp[Op.operands])
 | pick c a b=>
   simp only[ho]at h;show nh (aS P tm' c) (aS P tm' a) (aS P tm' b)=nh (aS P tm c) (aS P tm a) (aS P tm b);rw[h c (by simp[Op.operands]),h a (by simp[Op.operands]),h b (by simp[Op.operands])]
 | load t x=>simp only[ho]at h;show aj P H t (aS P tm' x)=aj P H t (aS P tm x);rw[h x (by simp[Op.operands])]
 | nilCheck x=>simp only[ho]at h;show kC (aS P tm' x)=kC (aS P tm x);rw[h x (by simp[Op.operands])]
 | fieldAddr s x f=>simp only[ho]at h;show aa P s (aS P tm' x) f=aa P s (aS P tm x) f;rw[h x (by simp[Op.operands])]
 | indexAddr t x ix=>
   simp only[ho]at h;show aT P t (aS P tm' x) (aS P tm' ix)=aT P t (aS P tm x) (aS P tm ix);rw[h x (by simp[Op.operands]),h ix (by simp[Op.operands])]
 | extract x i=>simp only[ho]at h;show bo (aS P tm' x) i=bo (aS P tm x) i;rw[h x (by simp[Op.operands])]
 | field t x f=>simp only[ho]at h;show rdField P t (aS P tm' x) f=rdField P t (aS P tm x) f;rw[h x (by simp[Op.operands])]
 | slice t x lo hi mx=>
   have hops:o.op.operands.toList=[x]++lo.toList++hi.toList++mx.toList:=by rw[ho];cases lo<;>cases hi<;>cases mx<;>rfl
   rw[hops]at h;show bq P H t (aS P tm' x) (eE P tm' lo) (eE P tm' hi) (eE P tm' mx)=bq P H t (aS P tm x) (eE P tm lo) (eE P tm hi) (eE P tm mx);rw[h x (by simp),kb (x:=lo) (λy hy=>h y (by simp[hy])),kb (x:=hi) (λy hy=>h y (by simp[hy])),kb (x:=mx) (λy hy=>h y (by simp[hy]))]
 | call c=>
   show nr P tm' o c=nr P tm o c;unfold nr;split
   all_goals first
    | rfl
    | (rename_i hc
       rw[lQ c.args.toList (λx hx=>h x (by rw[ho];simp[Op.operands,Call.operands,hc];simpa using hx))])
 | makeFunc fn a b=>
   show nn fn a.toList (mG P tm' b.toList)=nn fn a.toList (mG P tm b.toList);rw[lQ b.toList (λx hx=>h x (by rw[ho];simp[Op.operands];right;simpa using hx))]
 | typeAssert x xt t ok=>simp only[ho]at h;show fH P (aS P tm' x) t ok=fH P (aS P tm x) t ok;rw[h x (by simp[Op.operands])]
 | lookup t m k ok=>
   simp only[ho]at h;show eJ P H t (aS P tm' m) (aS P tm' k) ok=eJ P H t (aS P tm m) (aS P tm k) ok;rw[h m (by simp[Op.operands]),h k (by simp[Op.operands])]
 | convert s d x=>simp only[ho]at h;show dp P H s d (aS P tm' x)=dp P H s d (aS P tm x);rw[h x (by simp[Op.operands])]
 | index t x ix=>
   simp only[ho]at h;show da P t (aS P tm' x) (aS P tm' ix)=da P t (aS P tm x) (aS P tm ix);rw[h x (by simp[Op.operands]),h ix (by simp[Op.operands])]
 | binOp op t x y yt=>
   simp only[ho]at h;show bX P H op t (o_ x||o_ y) (aS P tm' x) (aS P tm' y)=bX P H op t (o_ x||o_ y) (aS P tm x) (aS P tm y);rw[h x (by simp[Op.operands]),h y (by simp[Op.operands])]
 | build t ps=>
   simp only[ho]at h;show aO P t (parts P tm' ps.toList)=aO P t (parts P tm ps.toList);rw[jb ps.toList (λp hp=>h p.2 (by
    show p.2∈((ps.toList.map (·.2)).toArray).toList;simp only[List.toList_toArray];exact List.mem_map.2 ⟨p,hp,rfl⟩))]
 | makeInterface t x=>simp only[ho]at h;show hI P t (aS P tm' x)=hI P t (aS P tm x);rw[h x (by simp[Op.operands])]
 | unOp op _ x=>simp only[ho]at h;show mR P op (aS P tm' x)=mR P op (aS P tm x);rw[h x (by simp[Op.operands])]
 | _=>rfl
theorem xF {o:Oper}(h:kG o.op=false):rd P H' tm o=rd P H tm o:=by
 unfold rd;cases ho:o.op with
 | load t x=>rw[ho]at h;cases h
 | slice t x lo hi mx=>rw[ho]at h;cases h
 | lookup t m k ok=>rw[ho]at h;cases h
 | convert s d x=>rw[ho]at h;cases h
 | binOp op t x y yt=>rw[ho]at h;cases h
 | _=>rfl
theorem pw {ops:Array Oper}{o:Oper}(h:∀p,o.guard=some p->∀d,gG ops p.1=some d->tm'.get (bits d)=tm.get (bits d)):bl tm' ops o=bl tm ops o:=by
 unfold bl;split
 . rfl
 . rename_i p hp;cases hd:gG ops p.1 with
   | none=>rfl
   | some d=>
     show iW tm' d p.2=iW tm d p.2;unfold iW;rw[h p hp d hd]
theorem nX {eq:Value->Value->Bool}(h:∀a b,eq a b=true->a=b):∀(l m:List Value),BH eq l m=true->l=m
 | [],[],_=>rfl
 | a::l,b::m,q=>by
   simp only[BH,Bool.and_eq_true]at q;rw[h a b q.1,nX h l m q.2]
 | [],_::_,q=>by cases q
 | _::_,[],q=>by cases q
theorem nY:∀(n:Nat) (v w:Value),AH n v w=true->v=w
 | 0,_,_,h=>by cases h
 | n+1,v,w,h=>by
   have ih:=nY n;unfold AH at h;split at h
   all_goals first
    | (cases h;done)
    | rfl
    | (simp only[Bool.and_eq_true,beq_iff_eq,decide_eq_true_eq]at h;simp_all;done)
    | (simp only[Bool.and_eq_true,beq_iff_eq]at h;rw[h.1,ih _ _ h.2];done)
    | (rename_i a b;have:=nX ih _ _ h;rw[Array.toList_inj]at this;rw[this];done)
theorem AW {v w:Value}(h:fj v w=true):v=w:=by
 unfold fj at h;simp only[Bool.or_eq_true,decide_eq_true_eq]at h;exact h.elim (nY 4 v w) id
theorem aM (v:Value):fj v v=true:=by unfold fj;simp
def nZ (ops:Array Oper):List Nat->Prop
 | []=>True
 | i::l=>(∃o,ops[i]? = some o/\∀e∈o.after,Region.binds .any e=true->e.on∉i::l)/\i∉l/\nZ ops l
theorem filter_lt {α:Type}(p q:α->Bool)(hpq:∀x,q x=true->p x=true):∀(l:List α) (x:α),x∈l->p x=true->q x=false->(l.filter q).length<(l.filter p).length
 | [],x,h,_,_=>by cases h
 | y::l,x,h,hp,hq=>by
   have hle:(l.filter q).length<=(l.filter p).length:=by
    clear h
    induction l with
    | nil=>simp
    | cons z l ih=>
      by_cases hqz:q z=true
      . rw[List.filter_cons_of_pos hqz,List.filter_cons_of_pos (hpq z hqz)];simp only[List.length_cons];omega
      . rw[List.filter_cons_of_neg hqz]
        by_cases hpz:p z=true
        . rw[List.filter_cons_of_pos hpz];simp only[List.length_cons];omega
        . rw[List.filter_cons_of_neg hpz];exact ih
   by_cases hyx:y=x
   . subst hyx;simp[hp,hq];omega
   . have hx:x∈l:=by
      cases h with
      | head=>exact absurd rfl hyx
      | tail _ h=>exact h
     have ih:=filter_lt p q hpq l x hx hp hq
     by_cases hqy:q y=true
     . simp[hqy,hpq y hqy];exact ih
     . by_cases hpy:p y=true
       . simp[hqy,hpy];omega
       . simp[hqy,hpy];exact ih
def Lv (ops:Array Oper)(listed:Array Bool):List Nat:=(List.range ops.size).filter λi=> !listed.getD i true
theorem I6 (ops:Array Oper)(hac:acyclic ops=true):∀(fuel t:Nat) (listed:Array Bool),listed.size=ops.size->(Lv ops listed).length<=fuel->
 nZ ops (Region.linearise.go .any ops fuel t listed [])/\(∀i∈Region.linearise.go .any ops fuel t listed [],listed.getD i true=false)/\
 (∀i,i<ops.size->listed.getD i true=false->i∈Region.linearise.go .any ops fuel t listed []):=by
 intro fuel
 induction fuel with
 | zero=>
   intro t listed _ hu;refine⟨trivial,λi hi=>by simp[Region.linearise.go]at hi,λi hi hl=> ?_⟩;have:i∈Lv ops listed:=List.mem_filter.2 ⟨List.mem_range.2 hi,by simp only[hl];rfl⟩;have:=List.length_pos_of_mem this;omega
 | succ fuel ih=>
   intro t listed jA hu;simp only[Region.linearise.go];change (nZ ops (match(Region.ready .any ops listed)[t % (Region.ready .any ops listed).length]? with
    | some i=>Region.linearise.go .any ops fuel (t/(Region.ready .any ops listed).length) (listed.setIfInBounds i true) [i]
    | none=>[].reverse))/\(∀i∈(match(Region.ready .any ops listed)[t % (Region.ready .any ops listed).length]? with
    | some i=>Region.linearise.go .any ops fuel (t/(Region.ready .any ops listed).length) (listed.setIfInBounds i true) [i]
    | none=>[].reverse),_)/\(∀i,_->_->i∈(match(Region.ready .any ops listed)[t % (Region.ready .any ops listed).length]? with
    | some i=>Region.linearise.go .any ops fuel (t/(Region.ready .any ops listed).length) (listed.setIfInBounds i true) [i]
    | none=>[].reverse))
   cases hi:(Region.ready .any ops listed)[t % (Region.ready .any ops listed).length]? with
   | none=>
     have hnil:Region.ready .any ops listed=[]:=by
      cases hr:Region.ready .any ops listed with
      | nil=>rfl
      | cons x xs=>
        rw[hr]at hi;have hlt:t % (x::xs).length<(x::xs).length:=Nat.mod_lt _ (by simp);rw[List.getElem?_eq_getElem hlt]at hi;cases hi
     refine⟨trivial,λi h=>by simp at h,?_⟩;have key:∀n i,i<n->i<ops.size->listed.getD i true=true:=by
      intro n
      induction n with
      | zero=>intro i h;omega
      | succ n ihn=>
        intro i h hisz;cases hl:listed.getD i true with
        | true=>rfl
        | false=>
          exfalso;have:i∈Region.ready .any ops listed:=mem_ready.2 ⟨hl,ops[i],Array.getElem?_eq_getElem hisz,λe he hb=>by
           have h1:=List.all_eq_true.1 hac i (List.mem_range.2 hisz);rw[Array.getElem?_eq_getElem hisz]at h1;have h2:=List.all_eq_true.1 h1 e (by simpa using he);simp only[hb,Bool.not_true,Bool.false_or]at h2;have h3:=dH h2;have h4:=ihn e.on (by omega) (by omega);simpa[Array.getD,show e.on<listed.size by omega]using h4⟩
          rw[hnil]at this;cases this
     intro i hisz hl;rw[key (i+1) i (by omega) hisz]at hl;cases hl
   | some i=>
     have hmem:=List.mem_of_getElem? hi;obtain⟨hl,o,ho,hdeps⟩:=mem_ready.1 hmem;have hisz:i<ops.size:=(Array.getElem?_eq_some_iff.1 ho).1;simp only[];rw[linearise_go_acc,List.reverse_singleton,List.singleton_append];have hset:∀j,j≠i->(listed.setIfInBounds i true).getD j true=listed.getD j true:=λj hj=>getD_set_ne true (Ne.symm hj);have hseti:(listed.setIfInBounds i true).getD i true=true:=by
      simp[Array.getD,show i<listed.size by omega]
     have hlt:(Lv ops (listed.setIfInBounds i true)).length<(Lv ops listed).length:=by
      refine filter_lt _ _ (λx hx=> ?_) _ i (List.mem_range.2 hisz) (by simp only[hl];rfl) (by simp only[hseti];rfl)
      by_cases hxi:x=i
      . subst hxi;rw[hseti]at hx;cases hx
      . rw[hset x hxi]at hx;exact hx
     obtain⟨h1,h2,h3⟩:=ih (t/(Region.ready .any ops listed).length) (listed.setIfInBounds i true) (by simp[jA]) (by omega);have hni:i∉Region.linearise.go .any ops fuel (t/(Region.ready .any ops listed).length) (listed.setIfInBounds i true) []:=λq=>by
      have:=h2 i q;rw[hseti]at this;cases this
     refine⟨⟨⟨o,ho,λe he hb q=> ?_⟩,hni,h1⟩,λj hj=> ?_,λj hj hlj=> ?_⟩
     . have h4:=hdeps e he hb;rcases List.mem_cons.1 q with q | q
       . rw[q]at h4;have h5:=hl;simp only[Array.getD]at h4 h5;split at h4<;>simp_all
       . have h5:=h2 e.on q
         by_cases hei:e.on=i
         . rw[hei,hseti]at h5;cases h5
         . rw[hset _ hei]at h5;simp only[Array.getD]at h4 h5;split at h4<;>simp_all
     . cases hj with
       | head=>exact hl
       | tail _ hj=>
         have h5:=h2 j hj
         by_cases hji:j=i
         . subst hji;exact hl
         . rw[hset _ hji]at h5;exact h5
     . by_cases hji:j=i
       . subst hji;simp
       . exact List.mem_cons_of_mem _ (h3 j hj (by rw[hset _ hji];exact hlj))
theorem AX (ops:Array Oper)(hac:acyclic ops=true)(t:Nat):nZ ops (Region.schedule true ops t)/\∀i,i<ops.size->i∈Region.schedule true ops t:=by
 have hrep:∀i,i<ops.size->(Array.replicate ops.size false).getD i true=false:=λi hi=>by simp[Array.getD,hi]
 have h:=I6 ops hac ops.size t (Array.replicate ops.size false) (by simp) (by
  unfold Lv;exact Nat.le_trans (List.length_filter_le _ _) (by simp))
 have e:Region.schedule true ops t=Region.linearise.go .any ops ops.size t (Array.replicate ops.size false) []:=rfl;rw[e];exact⟨h.1,λi hi=>h.2.2 i hi (hrep i hi)⟩
end
end
end Go.Ev
namespace Go.Ev
open Go.RowKit (Below)
noncomputable section
set_option maxRecDepth 100000
set_option linter.unusedVariables false
set_option linter.unusedSimpArgs false
section
variable {P:Program}{W w:World}{φ:bO}{H:T OB}{tm:T Value}{tmps:Array Value}{ops:Array Oper}
structure FB where
 fn:FuncId
 kind:CallKind
 ds:List Deferred
def cA (b:FB)(tmps:Array Value)(todo:List Item):Frame:={ fn:=b.fn,tmps,todo,defers:=b.ds,mode:= .run,kind:=b.kind }
def cJ (tmps:Array Value):Operand->Value:=Act.eval ⟨tmps,[]⟩
theorem ui (tmps:Array Value)(ds:List Deferred):Act.eval ⟨tmps,ds⟩=cJ tmps:=by funext x;cases x<;>rfl
def gN (tmps:Array Value)(dst:Option Tmp)(v:Value):Array Value:=match dst with
 | some d=>tmps.setIfInBounds d v
 | none=>tmps
theorem B6 (tmps:Array Value)(ds:List Deferred)(dst:Option Tmp)(v:Value):(Act.put ⟨tmps,ds⟩ dst v)=⟨gN tmps dst v,ds⟩:=by cases dst<;>rfl
theorem dm (tmps:Array Value)(dst:Option Tmp)(v:Value):(gN tmps dst v).size=tmps.size:=by cases dst<;>simp[gN]
section steps
variable {fn:FB}{i:Nat}{rest:List Nat}{k:List Item}{cs:List Frame}{w':World}{o:Oper}
theorem kc (ho:ops[i]? = some o)(v:Value):(cA fn tmps (.inRegion ops (i::rest)::k)).finish v=cA fn (gN tmps o.dst v) (.inRegion ops rest::k):=by
 have:=Frame.finish_at (cA fn #[] []) ⟨tmps,fn.ds⟩ ops i rest k v;rw[ho]at this;rw[show((some o:Option Oper).bind (·.dst))=o.dst from rfl,B6]at this;exact this
theorem vX (ho:ops[i]? = some o)(hw:Region.wanted o (yielded ops tmps)=true):
 stepG P true { frame:=cA fn tmps (.inRegion ops (i::rest)::k),callers:=cs,status:= .running,dying:=none } w=
  stepG.apply P true (cA fn tmps (.inRegion ops (i::rest)::k)) cs none (execOp (cJ tmps) o) w:=by
 have:=stepG_op (P:=P) (b:=cA fn #[] []) (a:=⟨tmps,fn.ds⟩) (cs:=cs) (w:=w) (k:=k) (rest:=rest) ho hw;rw[ui]at this;exact this
theorem dJ (ho:ops[i]? = some o)(hw:Region.wanted o (yielded ops tmps)=true){v:Value}(hr:(execOp (cJ tmps) o).run P w= .ok (.value v) w'):
 step P (lone (cA fn tmps (.inRegion ops (i::rest)::k)) cs w)= .next (lone (cA fn (gN tmps o.dst v) (.inRegion ops rest::k)) cs w'):=
 step_lone_go (by rw[vX ho hw,<- kc ho];simp[stepG.apply,hr])
theorem n0 (ho:ops[i]? = some o)(hw:Region.wanted o (yielded ops tmps)=true)(hr:(execOp (cJ tmps) o).run P w= .ok .skip w'):
 step P (lone (cA fn tmps (.inRegion ops (i::rest)::k)) cs w)= .next (lone (cA fn (gN tmps o.dst undef) (.inRegion ops rest::k)) cs w'):=
 step_lone_go (by rw[vX ho hw,<- kc ho];simp[stepG.apply,hr])
theorem ig (ho:ops[i]? = some o)(hw:Region.wanted o (yielded ops tmps)=true){f:FuncId}{args:Array Value}(hr:(execOp (cJ tmps) o).run P w= .ok (.enter f args) w'):
 step P (lone (cA fn tmps (.inRegion ops (i::rest)::k)) cs w)=
  .next (lone (Frame.enter P f args .normal) (cA fn tmps (.inRegion ops (i::rest)::k)::cs) w'):=
 step_lone_go (by rw[vX ho hw];simp[stepG.apply,hr,cA])
theorem B7 (ho:ops[i]? = some o)(hw:Region.wanted o (yielded ops tmps)=true){d:Deferred}(hr:(execOp (cJ tmps) o).run P w= .ok (.defer d) w'):
 step P (lone (cA fn tmps (.inRegion ops (i::rest)::k)) cs w)= .next (lone (cA ⟨fn.fn,fn.kind,d::fn.ds⟩ (gN tmps o.dst undef) (.inRegion ops rest::k)) cs w'):=
 step_lone_go (by
  rw[vX ho hw,<- kc (fn:=⟨fn.fn,fn.kind,d::fn.ds⟩) ho];simp only[stepG.apply,Sem.runT_eq,hr,GStep.bare_after];rfl)
theorem uj (ho:ops[i]? = some o)(hw:Region.wanted o (yielded ops tmps)=true){v:Value}(hr:(execOp (cJ tmps) o).run P w= .halt (.panic v) w'):
 step P (lone (cA fn tmps (.inRegion ops (i::rest)::k)) cs w)= .next (lone { cA fn tmps (.inRegion ops (i::rest)::k)with mode:= .panicking [{ v,recovered:=false }] } cs w'):=
 step_lone_go (by
  rw[vX ho hw];simp only[stepG.apply,Sem.runT_eq,hr,GStep.bare_after];rfl)
theorem px (ho:ops[i]? = some o)(hw:Region.wanted o (yielded ops tmps)=true)(hr:(execOp (cJ tmps) o).run P w= .ok .recover w')
 (ht:tryRecover (cA fn tmps (.inRegion ops (i::rest)::k)) cs=none):
 step P (lone (cA fn tmps (.inRegion ops (i::rest)::k)) cs w)= .next (lone (cA fn (gN tmps o.dst .nilIface) (.inRegion ops rest::k)) cs w'):=
 step_lone_go (by
  rw[vX ho hw,<- kc ho];have ht':tryRecover { fn:=fn.fn,tmps,todo:= .inRegion ops (i::rest)::k,defers:=fn.ds,mode:= .run,kind:=fn.kind } cs=none:=ht;simp[stepG.apply,hr,cA,ht'])
theorem py (ho:ops[i]? = some o)(hw:Region.wanted o (yielded ops tmps)=true)(hr:(execOp (cJ tmps) o).run P w= .ok .recover w'){v:Value}{cs':List Frame}
 (ht:tryRecover (cA fn tmps (.inRegion ops (i::rest)::k)) cs=some (v,cs')):
 step P (lone (cA fn tmps (.inRegion ops (i::rest)::k)) cs w)= .next (lone (cA fn (gN tmps o.dst v) (.inRegion ops rest::k)) cs' w'):=
 step_lone_go (by
  rw[vX ho hw,<- kc ho];have ht':tryRecover { fn:=fn.fn,tmps,todo:= .inRegion ops (i::rest)::k,defers:=fn.ds,mode:= .run,kind:=fn.kind } cs=some (v,cs'):=ht;simp[stepG.apply,hr,cA,ht'])
theorem n2 (ho:ops[i]? = some o)(hw:Region.wanted o (yielded ops tmps)=false):
 step P (lone (cA fn tmps (.inRegion ops (i::rest)::k)) cs w)= .next (lone (cA fn (gN tmps o.dst undef) (.inRegion ops rest::k)) cs w):=by
 have:=step_op_skip (P:=P) (b:=cA fn #[] []) (a:=⟨tmps,fn.ds⟩) (k:=k) (cs:=cs) (w:=w) (ops:=ops) (i:=i) (rest:=rest) (by simp[ho,hw]);rw[ho,show((some o:Option Oper).bind (·.dst))=o.dst from rfl,B6]at this;exact this
end steps
def uk (φ:bO)(M:Nat->Prop)(tm:T Value)(tmps:Array Value):Prop:=∀t v,tm.get (bits t)=some v->M t\/∃v',tmps[t]? = some v'/\VR φ v v'
theorem uk.mono {ψ:bO}{M:Nat->Prop}(hle:φ.le ψ)(h:uk φ M tm tmps):uk ψ M tm tmps:=λt v q=>(h t v q).imp id λ⟨v',a,b⟩=>⟨v',a,b.mono hle⟩
theorem rP {M:Nat->Prop}(hG:∀g,g<P.globals.size->∃e:ft,φ[g]? = some (some e)/\e.r=g)(h:uk φ M tm tmps){l:List Operand}(hl:∀t,Operand.tmp t∈l->¬M t):lA P φ tm (cJ tmps) l:=by
 intro x hx v hv;cases x with
 | tmp t=>
   rcases h t v hv with q | ⟨v',h1,h2⟩
   . exact absurd q (hl t hx)
   . have:cJ tmps (.tmp t)=v':=by
      simp only[cJ,Act.eval,Array.getD_eq_getD_getElem?,h1,Option.getD_some]
     rw[this];exact h2
 | const c=>
   have hv:(bif flat c then some c else none)=some v:=hv;obtain⟨h1,h2⟩:=ax hv;cases h2;exact .flat _ h1
 | global g=>
   obtain⟨h1,h2⟩:=ax (show(bif Nat.blt g P.globals.size then some (Value.pointer (some ⟨g,0,none⟩))else none)=some v from hv);cases h2;obtain⟨e,h3,h4⟩:=hG g (dH h1);have:cJ tmps (.global g)= .pointer (some ⟨e.r,0,none⟩):=by rw[h4];rfl
   rw[this];exact .ptr h3
 | func f=>cases hv;exact .flat _ rfl
theorem lR {M:Nat->Prop}(h:uk φ M tm tmps){o:Oper}(hl:∀p,o.guard=some p->∀d,gG ops p.1=some d->¬M d){b:Bool}
 (hw:bl tm ops o=some b):Region.wanted o (yielded ops tmps)=b:=by
 unfold bl at hw;unfold Region.wanted;split at hw
 . rename_i hg;rw[hg];cases hw;rfl
 . rename_i p hg;obtain⟨j,want⟩:=p;rw[hg];obtain⟨d,hd,hy⟩:=ao hw;have hM:=hl (j,want) hg d hd;have hd':(ops[j]?).bind (·.dst)=some d:=by
    unfold gG at hd;cases hj:ops[j]? with
    | none=>rw[hj]at hd;cases hd
    | some q=>rw[hj]at hd;exact hd
   show(yielded ops tmps j == some want)=b;unfold iW at hy;split at hy
   . rename_i x hx;cases hy;rcases h d _ hx with q | ⟨v',h1,h2⟩
     . exact absurd q hM
     . have:=h2.al rfl;subst this;have e:yielded ops tmps j=some x:=by
        unfold yielded;rw[hd'];simp only[Option.bind_some,h1]
       rw[e];cases x<;>cases want<;>rfl
   . rename_i c hx;cases hy;rcases h d _ hx with q | ⟨v',h1,h2⟩
     . exact absurd q hM
     . obtain⟨c',rfl,_⟩:=h2.qi;have e:yielded ops tmps j=none:=by
        unfold yielded;rw[hd'];simp only[Option.bind_some,h1]
       rw[e];rfl
   . cases hy
def bG (tm:T Value)(dst:Option Tmp)(v:Value):T Value:=match dst with
 | some d=>set tm (bits d) (some v)
 | none=>tm
theorem eo (tm:T Value)(dst:Option Tmp)(v:Value)(t:Nat):(bG tm dst v).get (bits t)=if dst=some t then some v else tm.get (bits t):=by
 cases dst with
 | none=>rfl
 | some d=>
   show(set tm (bits d) (some v)).get (bits t)=_;rw[get_at]
   by_cases h:t=d
   . subst h;simp
   . rw[if_neg h,if_neg (by simp;exact λq=>h q.symm)]
theorem lS (tm:T Value)(dst:Option Tmp)(v:Value)(x:Operand)(h:∀d,dst=some d->x ≠ .tmp d):aS P (bG tm dst v) x=aS P tm x:=by
 cases x with
 | tmp t=>
   show(bG tm dst v).get (bits t)=tm.get (bits t);rw[eo,if_neg (λq=>h t q rfl)]
 | _=>rfl
theorem um {tmps:Array Value}{dst:Option Tmp}{v:Value}{t:Nat}(h:∀d,dst=some d->d<tmps.size):
 (gN tmps dst v)[t]? = if dst=some t then some v else tmps[t]? := by
 cases dst with
 | none=>rfl
 | some d=>
   show(tmps.setIfInBounds d v)[t]? = _
   by_cases ht:d=t
   . subst ht;rw[Array.getElem?_setIfInBounds_self_of_lt (h d rfl)];simp
   . rw[Array.getElem?_setIfInBounds_ne ht,if_neg (by simpa using ht)]
theorem uk.put {M M':Nat->Prop}(h:uk φ M tm tmps){dst:Option Tmp}{v v':Value}(hd:∀d,dst=some d->d<tmps.size)(hv:VR φ v v')(hM:∀t,M t->dst≠some t->M' t):
 uk φ M' (bG tm dst v) (gN tmps dst v'):=by
 intro t u hu;rw[eo]at hu;rw[um hd]
 by_cases ht:dst=some t
 . rw[if_pos ht]at hu ⊢;cases hu;exact .inr ⟨v',rfl,hv⟩
 . rw[if_neg ht]at hu ⊢;exact(h t u hu).imp (λq=>hM t q ht) id
def Lw (P:Program)(tm:T Value)(o:Op)(e:TypeId)(l:List Value)(mk:Nat->Value):Prop:=
 (o= .alloc e/\bn P e=some l/\mk=iJ)\/
 (∃(t:TypeId) (len:Nat) (ps:Array (Nat×Operand)) (vs:List (Nat×Value)) (s:Nat) (z:List Value) (cells:Array Value),o= .buildSlice t len ps/\parts P tm ps.toList=some vs/\P.underlying t=some (.slice e)/\aE P e=some s/\bn P e=some z/\
  (Nat.ble (len*s) 16777216&&Nat.blt 0 (len*s)&&Nat.blt 0 z.length)=true/\Instr.fill (λi=>some (i*s,s)) (bk z (len*s)) vs=some cells/\l=cells.toList/\mk=λnx=> .slice (some ⟨nx,0,none⟩) len len)
theorem Ly {o:Oper}{nx:Nat}{H':T OB}(hal:nu o.op=true){v:Value}{nx':Nat}(h:ef P H nx tm o= .val v H' nx'):∃e l mk,Lw P tm o.op e l mk/\v=mk nx/\H'=set H (bits nx) (some (ca l e))/\nx'=nx+1:=by
 unfold ef at h;split at h
 . rename_i e he;unfold bL at h;obtain⟨l,hz,h⟩:=bz h;rw[dy]at h;cases h;exact⟨e,l,iJ,.inl ⟨he,hz,rfl⟩,rfl,rfl,rfl⟩
 . rename_i he;rw[he]at hal;cases hal
 . rename_i he;rw[he]at hal;cases hal
 . rename_i t len ps he;unfold aF at h;obtain⟨vs,hvs,h⟩:=bz h;obtain⟨e,s,hu,hs,h⟩:=gb h;obtain⟨z,hz,h⟩:=bz h;obtain⟨hc,h⟩:=cf h;obtain⟨cells,hf,h⟩:=bz h;rw[dy,aG]at h;cases h;exact⟨e,_,_,.inr ⟨t,len,ps,vs,s,z,cells,he,hvs,hu,hs,hz,hc,hf,rfl,rfl⟩,rfl,rfl,rfl⟩
 all_goals first
  | (rename_i he;rw[he]at hal;cases hal)
  | cases h
theorem I7 {o:Oper}{ρ:Operand->Value}{e:TypeId}{l:List Value}{mk:Nat->Value}(hE:lA P φ tm ρ o.op.operands.toList)(h:Lw P tm o.op e l mk):
 ∃(l':List Value) (mk':Addr->Value),LR φ l l'/\(execOp ρ o).run P w= .ok (.value (mk' ⟨w.heap.size,0,none⟩)) (w.alloc (.cells l'.toArray e))/\∀(ψ:bO) (k:Nat) (en:ft),ψ[k]? = some (some en)->VR ψ (mk k) (mk' ⟨en.r,0,none⟩):=by
 rcases h with⟨ho,hz,rfl⟩ | ⟨t,len,ps,vs,s,z,cells,ho,hvs,hu,hs,hz,hc,hf,rfl,rfl⟩
 . obtain⟨i,z,hi',hz',hl,hfl⟩:=e8 hz;refine⟨l,λa=> .pointer (some a),LR.of_flat hfl,?_,fun ψ k en hk=> .ptr hk⟩;have hrun:(execOp ρ o).run P w= .ok (.value (.pointer (some ⟨w.heap.size,0,none⟩))) (w.alloc (.cells z.cells e)):=by
    simp[execOp,ho,Instr.alloc,zeroValue,typeInfo,hi',hz',newVar,newRow]
   rw[hrun,<- hl]
 . simp only[Bool.and_eq_true]at hc;have h1:=bU hc.1.1;have h2:=dH hc.1.2;obtain⟨i,z',hi,hz',hl,hfl⟩:=e8 hz;have hp:PR φ vs (ps.toList.map λp=>(p.1,ρ p.2)):=kM ps.toList vs (λp hp=>hE p.2 (by
    rw[ho];show p.2∈((ps.toList.map (·.2)).toArray).toList;exact List.mem_map.2 ⟨p,hp,rfl⟩)) hvs
   obtain⟨cells',hf',hLR⟩:=mV (λi=>some (i*s,s)) hp _ (bk z (len*s)) cells (LR.of_flat (kP hfl _)) hf;refine⟨cells'.toList,λa=> .slice (some a) len len,hLR,?_,fun ψ k en hk=> .slice hk (.inl ⟨?_,rfl⟩)⟩
   . have hzc:z.toArray=z'.cells:=by rw[<- hl]
     have hf'':Instr.fill (λi=>some (i*s,s)) (Array.map (λx=>z'.cells[x%z'.cells.size]!) (Array.range (len*s))) (ps.toList.map λp=>(p.1,ρ p.2))=some cells':=by
      rw[<- hzc];exact hf'
     have e24:(2:Nat)^24=16777216:=by decide
     have hne:¬(len*s>2^24):=by rw[e24];omega
     have hne0:¬(len*s=0):=by omega
     simp only[execOp,ho,Instr.buildSlice,Sem.run_bind,aK hu,Result.andThen_ok,bx hs,if_neg hne,if_neg hne0,Sem.run_pure];have hzr:(zeroValue e).run P w= .ok z' w:=by simp[zeroValue,typeInfo,hi,hz']
     simp[hzr,hf'',newRow]
   . have:len<=len*s:=Nat.le_mul_of_pos_right len (Nat.pos_of_ne_zero (λq=>by rw[q]at h2;simp at h2));unfold eC;omega
theorem qy {tm tm':T Value}{o:Op}{e:TypeId}{l:List Value}{mk:Nat->Value}(hx:∀x∈o.operands.toList,aS P tm' x=aS P tm x)(h:Lw P tm o e l mk):Lw P tm' o e l mk:=by
 rcases h with h | ⟨t,len,ps,vs,s,z,cells,ho,hvs,h⟩
 . exact .inl h
 . refine .inr ⟨t,len,ps,vs,s,z,cells,ho,?_,h⟩;rw[<- hvs];refine jb _ λp hp=>hx p.2 ?_;rw[ho];show p.2∈((ps.toList.map (·.2)).toArray).toList;exact List.mem_map.2 ⟨p,hp,rfl⟩
def uo (P:Program)(φ:bO)(H:T OB)(tm:T Value)(ops:Array Oper)(κ:Nat->Nat)(lo hi:Nat)(p:Nat)(o:Oper):Prop:=
 (bl tm ops o=some false/\∀d,o.dst=some d->tm.get (bits d)=some undef)\/
 (bl tm ops o=some true/\vz o.op=true/\∃u,(∀d,o.dst=some d->tm.get (bits d)=some u)/\(kG o.op=false->rd P H tm o=some u))\/
 (bl tm ops o=some true/\nu o.op=true/\∃e l mk,Lw P tm o.op e l mk/\φ[κ p]? = some none/\hp H (κ p)=some (ca l e)/\lo<=κ p/\κ p<hi/\
  ∀d,o.dst=some d->tm.get (bits d)=some (mk (κ p)))
def Mask (ops:Array Oper)(done π:List Nat)(t:Nat):Prop:=∃p,p∈π/\p∈done/\gG ops p=some t
structure dZ (P:Program)(φ:bO)(H:T OB)(tm:T Value)(tmps:Array Value)(ops:Array Oper)(done g7:List Nat)(pl:List (Nat×List Nat))(π:List Nat)(κ:Nat->Nat)(lo hi:Nat):Prop where
 sa:pe ops=true
 ac:acyclic ops=true
 AY:e7 ops (hU ops) done g7 pl=true
 EO:nZ ops π
 todo:∀i,i<ops.size->i∉done->i∈π
 closed:∀i,i∉π->∀o,ops[i]? = some o->∀e∈o.after,Region.binds .any e=true->e.on∉π
 ready:∀i,i∈done->∀o,ops[i]? = some o->du ops done o=true
 tr:uk φ (Mask ops done π) tm tmps
 Ff:∀i o d,ops[i]? = some o->o.dst=some d->i∈done->d<tmps.size
 prom:∀p,p∈π->p∈done->∀o,ops[p]? = some o->uo P φ H tm ops κ lo hi p o
 g7:∀p,p∈π->p∈done->∀o,ops[p]? = some o->kG o.op=true->p∈g7
 inj:∀p q,p∈π->p∈done->q∈π->q∈done->∀o o',ops[p]? = some o->ops[q]? = some o'->nu o.op=true->nu o'.op=true->
  bl tm ops o=some true->bl tm ops o'=some true->κ p=κ q->p=q
 own:∀p,p∈π->p∈done->p∉iK ops
def jc (P:Program)(H:T OB)(tm:T Value)(ops:Array Oper)(done π:List Nat):Prop:=
 ∀p,p∈π->p∈done->∀o,ops[p]? = some o->kG o.op=true->bl tm ops o=some true->∃u,rd P H tm o=some u/\∀d,o.dst=some d->tm.get (bits d)=some u
theorem fL {o:Oper}{j:Nat}:direct o j=true↔∃e∈o.after,Region.binds .any e=true/\e.on=j:=by
 unfold direct;rw[List.any_eq_true];constructor
 . rintro⟨e,he,h⟩;simp only[Bool.and_eq_true,beq_iff_eq]at h;exact⟨e,by simpa using he,h.1,h.2⟩
 . rintro⟨e,he,h1,h2⟩;exact⟨e,by simpa using he,by simp[h1,h2]⟩
theorem uq (hs:pe ops=true){i j:Nat}{o q:Oper}{d:Tmp}(hi:ops[i]? = some o)(hj:ops[j]? = some q)(hd:q.dst=some d)(hl:d∈o.looksAt ops):direct o j=true\/direct q i=true:=by
 have h1:=List.all_eq_true.1 hs i (List.mem_range.2 (Array.getElem?_eq_some_iff.1 hi).1);have h2:=List.all_eq_true.1 h1 j (List.mem_range.2 (Array.getElem?_eq_some_iff.1 hj).1);simp only[hi,hj,hd,Bool.and_eq_true,Bool.or_eq_true,Bool.not_eq_true']at h2;rcases h2.1 with(h3 | h3) | h3
 . have h4:(o.looksAt ops).contains d=true:=by simpa using hl
   rw[h3]at h4;cases h4
 . exact .inl h3
 . exact .inr h3
theorem ur {i j:Nat}(hn:j∉iK ops){o q:Oper}{d:Tmp}(hi:ops[i]? = some o)(hj:ops[j]? = some q)(hd:q.dst=some d)(hl:d∈o.looksAt ops):direct o j=true:=by
 cases h:direct o j with
 | true=>rfl
 | false=>
   refine absurd ?_ hn;unfold iK;rw[List.mem_filter];refine⟨List.mem_range.2 (Array.getElem?_eq_some_iff.1 hj).1,?_⟩;simp only[hj,hd];rw[List.any_eq_true];refine⟨i,List.mem_range.2 (Array.getElem?_eq_some_iff.1 hi).1,?_⟩;simp only[hi,h];have h4:(o.looksAt ops).contains d=true:=by simpa using hl
   rw[h4];rfl
theorem I8 (hs:pe ops=true){i j:Nat}{o q:Oper}{d:Tmp}(hi:ops[i]? = some o)(hj:ops[j]? = some q)(hd:q.dst=some d)(hne:i≠j):o.dst≠some d:=by
 have h1:=List.all_eq_true.1 hs i (List.mem_range.2 (Array.getElem?_eq_some_iff.1 hi).1);have h2:=List.all_eq_true.1 h1 j (List.mem_range.2 (Array.getElem?_eq_some_iff.1 hj).1);simp only[hi,hj,hd,Bool.and_eq_true,Bool.or_eq_true,Bool.not_eq_true',beq_iff_eq,bne_iff_ne]at h2;exact h2.2.resolve_left hne
theorem jd {o:Oper}{t:Nat}(h:Operand.tmp t∈o.op.operands.toList):t∈o.looksAt ops:=by
 unfold Oper.looksAt;exact List.mem_append_left _ (List.mem_filterMap.2 ⟨.tmp t,h,rfl⟩)
theorem je {o:Oper}{p:Nat×Bool}{d:Tmp}(hg:o.guard=some p)(hd:gG ops p.1=some d):d∈o.looksAt ops:=by
 unfold Oper.looksAt;refine List.mem_append_right _ ?_;obtain⟨j,b⟩:=p;rw[hg];have hd':(ops[j]?).bind (·.dst)=some d:=by
  unfold gG at hd;cases hj:ops[j]? with
  | none=>rw[hj]at hd;cases hd
  | some q=>rw[hj]at hd;exact hd
 simp only[hd',Option.toList_some,List.mem_singleton]
theorem n3 {ops:Array Oper}{p t:Nat}(h:gG ops p=some t):∃q,ops[p]? = some q/\q.dst=some t:=by
 unfold gG at h;cases hj:ops[p]? with
 | none=>rw[hj]at h;cases h
 | some q=>rw[hj]at h;exact⟨q,rfl,h⟩
theorem jB {q:Nat}{π:List Nat}(hlin:nZ ops (q::π)){done:List Nat}(hown:∀p,p∈q::π->p∈done->p∉iK ops){o:Oper}(ho:ops[q]? = some o){t:Nat}(ht:t∈o.looksAt ops):¬Mask ops done (q::π) t:=by
 rintro⟨p,hp,hpd,hd⟩;obtain⟨oq,h1,h2⟩:=n3 hd;have h3:=fL.1 (ur (hown p hp hpd) ho h1 h2 ht);obtain⟨e,he,hb,hon⟩:=h3;obtain⟨⟨o',ho',hdeps⟩,_⟩:=hlin;rw[ho]at ho';cases ho';exact hdeps e he hb (by rw[hon];exact hp)
section
variable {done g7:List Nat}{pl:List (Nat×List Nat)}{π:List Nat}{κ:Nat->Nat}{lo hi:Nat}{fn:FB}{k:List Item}{cs:List Frame}
theorem xG {op:Op}(h:nu op=true):vz op=false:=by
 cases op<;>first | rfl | cases h
theorem Fg {op:Op}(h:nu op=true):kG op=false:=by
 cases op<;>first | rfl | cases h
theorem B8 {j:Nat}(h:j∉hU ops):j∉iK ops:=λq=>h (by
 unfold hU;split
 . exact List.mem_append_left _ q
 . exact q)
theorem AZ (hH:HR P W φ (hp H) w){q:Nat}(hD:dZ P φ H tm tmps ops done g7 pl (q::π) κ lo hi)(hL:jc P H tm ops done (q::π))(hq:q∈done):
 ∃φ' tmps' w',step P (lone (cA fn tmps (.inRegion ops (q::π)::k)) cs w)= .next (lone (cA fn tmps' (.inRegion ops π::k)) cs w')/\
  φ.le φ'/\HR P W φ' (hp H) w'/\φ'.length=φ.length/\(∀j,j<lo->φ[j]? = some none->φ'[j]? = some none)/\
  dZ P φ' H tm tmps' ops done g7 pl π κ lo hi/\jc P H tm ops done π/\tmps'.size=tmps.size:=by
 obtain⟨⟨o,ho,hdeps⟩,hnq,hlin⟩:=hD.EO;have hop:lA P φ tm (cJ tmps) o.op.operands.toList:=rP hH.gl hD.tr λt ht=>jB hD.EO hD.own ho (jd ht);have hgd:∀b,bl tm ops o=some b->Region.wanted o (yielded ops tmps)=b:=λb hb=>lR hD.tr (λp hp d hd=>jB hD.EO hD.own ho (je hp hd)) hb;have hd:∀d,o.dst=some d->d<tmps.size:=λd h=>hD.Ff q o d ho h hq;have rest:∀(ψ:bO) (u u':Value),φ.le ψ->(∀d,o.dst=some d->tm.get (bits d)=some u)->VR ψ u u'->
  (∀p,p∈π->p∈done->∀o',ops[p]? = some o'->uo P ψ H tm ops κ lo hi p o')->dZ P ψ H tm (gN tmps o.dst u') ops done g7 pl π κ lo hi:=by
  intro ψ u u' hle hu hv hp;refine⟨hD.sa,hD.ac,hD.AY,hlin,λi hi hn=> ?_,λi hi x hx e he hb=> ?_,hD.ready,λt v hv'=> ?_,λi x d hx hxd hi=>by rw[dm];exact hD.Ff i x d hx hxd hi,hp,
   λp hp=>hD.g7 p (List.mem_cons_of_mem _ hp),λp p' hp hpd hp' hpd'=>hD.inj p p' (List.mem_cons_of_mem _ hp) hpd (List.mem_cons_of_mem _ hp') hpd',λp hp hpd=>hD.own p (List.mem_cons_of_mem _ hp) hpd⟩
  . rcases List.mem_cons.1 (hD.todo i hi hn)with h | h
    . subst h;exact absurd hq hn
    . exact h
  . by_cases hiq:i=q
    . subst hiq;rw[ho]at hx;cases hx;exact λh=>hdeps e he hb (List.mem_cons_of_mem _ h)
    . exact λh=>hD.closed i (λh=>(List.mem_cons.1 h).elim hiq hi) x hx e he hb (List.mem_cons_of_mem _ h)
  . rw[um hd]
    by_cases ht:o.dst=some t
    . rw[if_pos ht];rw[hu t ht]at hv';cases hv';exact .inr ⟨u',rfl,hv⟩
    . rw[if_neg ht];rcases hD.tr t v hv' with⟨p,hp,hpd,hpt⟩ | ⟨v',a,b⟩
      . rcases List.mem_cons.1 hp with h | h
        . subst h;obtain⟨x,hx,hxt⟩:=n3 hpt;rw[ho]at hx;cases hx;exact absurd hxt ht
        . exact .inl ⟨p,h,hpd,hpt⟩
      . exact .inr ⟨v',a,b.mono hle⟩
 have hL':jc P H tm ops done π:=λp hp=>hL p (List.mem_cons_of_mem _ hp);have hprom:∀p,p∈π->p∈done->∀o',ops[p]? = some o'->uo P φ H tm ops κ lo hi p o':=λp hp=>hD.prom p (List.mem_cons_of_mem _ hp);rcases hD.prom q (by simp) hq o ho with⟨hw,hu⟩ | ⟨hw,hrd,u,hu,hnl⟩ | ⟨hw,hal,e,l,mk,hz,hk,hkb,jW,hhi,hu⟩
 . exact⟨φ,_,w,n2 ho (hgd _ hw),φ.le_refl,hH,rfl,λ_ _ h=>h,rest φ undef undef φ.le_refl hu (.flat _ rfl) hprom,hL',dm _ _ _⟩
 . have hr:∃u,rd P H tm o=some u/\∀d,o.dst=some d->tm.get (bits d)=some u:=by
    cases hl:kG o.op with
    | false=>exact⟨u,hnl hl,hu⟩
    | true=>exact hL q (by simp) hq o ho hl hw
   obtain⟨u,hr,hu⟩:=hr;obtain⟨u',hv,hrun⟩:=nO hH hop hr;exact⟨φ,_,w,dJ ho (hgd _ hw) hrun,φ.le_refl,hH,rfl,λ_ _ h=>h,rest φ u u' φ.le_refl hu hv hprom,hL',dm _ _ _⟩
 . obtain⟨l',mk',hLR,hrun,hmk⟩:=I7 hop hz;have hob:=rM (P:=P) (W:=W) (w:=w) hLR e e #[] (es:=(aE P e).getD 0) (λy hy=>by rw[hy];rfl) hH.below;rw[Array.append_empty]at hob;have hb:=hH.bind hk hkb (.cells l'.toArray e) hob;refine⟨_,_,_,dJ ho (hgd _ hw) hrun,lO hk _,hb,by simp,λj hj h=> ?_,rest _ (mk (κ q)) _ (lO hk _) hu (hmk _ _ _ (Fc hk _)) ?_,hL',dm _ _ _⟩
   . rw[List.getElem?_set_ne (by omega)];exact h
   . intro p hp hpd o' ho';rcases hprom p hp hpd o' ho' with h | h | ⟨hw',hal',e',l',mk2,hz'',hk',hkb',hlo',hhi',hu'⟩
     . exact .inl h
     . exact .inr (.inl h)
     . refine .inr (.inr ⟨hw',hal',e',l',mk2,hz'',?_,hkb',hlo',hhi',hu'⟩);rw[List.getElem?_set_ne]
       . exact hk'
       . intro heq;have:=hD.inj q p (by simp) hq (List.mem_cons_of_mem _ hp) hpd o o' ho ho' hal hal' hw hw' heq;subst this;exact hnq hp
theorem n4:∀(π:List Nat) (φ:bO) (tmps:Array Value) (w:World),HR P W φ (hp H) w->dZ P φ H tm tmps ops done g7 pl π κ lo hi->jc P H tm ops done π->
 ∃φ' tmps' w' π',Steps P (lone (cA fn tmps (.inRegion ops π::k)) cs w) (lone (cA fn tmps' (.inRegion ops π'::k)) cs w')/\
  φ.le φ'/\HR P W φ' (hp H) w'/\φ'.length=φ.length/\(∀j,j<lo->φ[j]? = some none->φ'[j]? = some none)/\
  dZ P φ' H tm tmps' ops done g7 pl π' κ lo hi/\jc P H tm ops done π'/\tmps'.size=tmps.size/\(∀q l,π'=q::l->q∉done)
 | [],φ,tmps,w,hH,hD,hL=>⟨φ,tmps,w,[],.refl _ _,φ.le_refl,hH,rfl,λ_ _ h=>h,hD,hL,rfl,λq l h=>by cases h⟩
 | q::π,φ,tmps,w,hH,hD,hL=>by
   by_cases hq:q∈done
   . obtain⟨φ1,tmps1,w1,hs,hle,hH1,hl1,hk1,hD1,hL1,hz1⟩:=AZ (fn:=fn) (k:=k) (cs:=cs) hH hD hL hq;obtain⟨φ2,tmps2,w2,π2,hs2,hle2,hH2,hl2,hk2,hD2,hL2,hz2,hn2⟩:=n4 π φ1 tmps1 w1 hH1 hD1 hL1;exact⟨φ2,tmps2,w2,π2,.head hs hs2,bO.le_trans hle hle2,hH2,hl2.trans hl1,λj hj h=>hk2 j hj (hk1 j hj h),hD2,hL2,hz2.trans hz1,hn2⟩
   . exact⟨φ,tmps,w,q::π,.refl _ _,φ.le_refl,hH,rfl,λ_ _ h=>h,hD,hL,rfl,λq' l h=>by cases h;exact hq⟩
end
end
section
variable {P:Program}{W w:World}{φ φ':bO}{H H':T OB}{tm:T Value}{tmps:Array Value}{ops:Array Oper}
variable {done g7:List Nat}{pl:List (Nat×List Nat)}{π:List Nat}{κ:Nat->Nat}{lo hi:Nat}
theorem vY {β:Type}{F:Option OB->Option β}(hF:F none=none){b:Nat}{u:β}(hext:∀k ob,hp H k=some ob->hp H' k=some ob)(h:F (H.get (bits b))=some u):H'.get (bits b)=H.get (bits b):=by
 cases hg:H.get (bits b)with
 | none=>rw[hg,hF]at h;cases h
 | some ob=>exact hext b ob hg
theorem uu {F:Option OB->Bool}(hF:F none=false){b:Nat}(hext:∀k ob,hp H k=some ob->hp H' k=some ob)(h:F (H.get (bits b))=true):H'.get (bits b)=H.get (bits b):=by
 cases hg:H.get (bits b)with
 | none=>rw[hg,hF]at h;cases h
 | some ob=>exact hext b ob hg
theorem mm {b:Nat}(hext:∀k ob,hp H k=some ob->hp H' k=some ob)(h:g_ H b=true):g_ H' b=true:=by
 unfold g_ at h ⊢;rw[uu (F:=λx=>cP x (λ_ _ _=>true) false) rfl hext h];exact h
theorem I9 {o:Oper}{u:Value}(hext:∀k ob,hp H k=some ob->hp H' k=some ob)(h:rd P H tm o=some u):rd P H' tm o=some u:=by
 cases hl:kG o.op with
 | false=>rw[xF hl];exact h
 | true=>
   unfold rd at h ⊢;cases ho:o.op with
   | load t x=>
     simp only[ho]at h ⊢;unfold aj at h ⊢;split at h
     . rename_i b off _;unfold iI at h ⊢;rw[vY (F:=λx=>o8 x (λn tr=>iR P n tr t off) none) rfl hext h];exact h
     . exact h
     . cases h
   | slice t x lo hi mx=>
     simp only[ho]at h ⊢;unfold bq at h ⊢;split at h
     . rename_i b off len cap hx;obtain⟨hm,h⟩:=ax h;rw[hm];obtain⟨s,hs,h3⟩:=ao h;obtain⟨l,hl,h3⟩:=ao h3;obtain⟨hh,hhi,h3⟩:=ao h3;simp only[cond_true,hs,aw,hl,hhi];cases hc:Nat.beq cap eC with
       | false=>rw[hc]at h3;exact h3
       | true=>
         rw[hc]at h3;have h3:lD P H b off len s l hh=some u:=h3;show lD P H' b off len s l hh=some u;unfold lD at h3 ⊢;obtain⟨h4,h5⟩:=ax h3;rw[h4];cases h6:Nat.beq l 0 with
         | true=>rw[h6]at h5;exact h5
         | false=>
           rw[h6]at h5;obtain⟨h7,h8⟩:=ax (show(bif Nat.blt l len&&o9 P H b s then bD (Nat.sub hh l) (λn=>bD (Nat.add off (Nat.mul l s)) λo=>some (Value.slice (some ⟨b,o,none⟩) n eC))else none)=some u from h5);simp only[Bool.and_eq_true]at h7;have h9:o9 P H' b s=true:=by
            have h9:=h7.2;unfold o9 at h9 ⊢;rw[uu (F:=λx=>cP x (λ_ _ el=>af (aE P el) (λz=>Nat.beq z s) false) false) rfl hext h9];exact h9
           show(bif Nat.blt l len&&o9 P H' b s then bD (Nat.sub hh l) (λn=>bD (Nat.add off (Nat.mul l s)) λo=>some (Value.slice (some ⟨b,o,none⟩) n eC))else none)=some u;rw[h7.1,h9];exact h8
     . exact h
     . exact h
     . cases h
   | lookup t m k ok=>
     simp only[ho]at h ⊢;have h:eJ P H t (aS P tm m) (aS P tm k) ok=some u:=h;show eJ P H' t (aS P tm m) (aS P tm k) ok=some u;have he:AD H' (aS P tm m)=AD H (aS P tm m):=by
      unfold eJ at h;obtain⟨kt,et,d,_,_,_,h⟩:=qn h;obtain⟨es,hes,_⟩:=ao h;unfold AD at hes ⊢;split at hes
      . rfl
      . rename_i b;rw[vY (F:=λx=>match x with | some (.map es _)=>some es | _=>none) rfl hext hes]
      . cases hes
     unfold eJ at h ⊢;rw[he];exact h
   | convert s d x=>
     simp only[ho]at h ⊢;unfold dp at h ⊢;split at h
     . rename_i b off n cp hx;obtain⟨h1,h2⟩:=ax h;rw[h1];show o8 (H'.get (bits b)) _ none=some u;rw[vY (F:=λx=>o8 x (λm tr=>bif Nat.ble (off+n) m then af (mQ tr n off) (λl=>af (strOf l) (λr=>some (Value.string ⟨⟨r⟩⟩)) none) none else none) none) rfl hext h2];exact h2
     . exact h
     . cases h
   | binOp op t x y yt=>
     simp only[ho]at h ⊢;unfold bX at h ⊢;obtain⟨a,ha,h⟩:=ao h;obtain⟨b,hb,h⟩:=ao h;rw[ha,hb];simp only[aw];have two:∀a b,iT P H op t (o_ x||o_ y) a b=some u->iT P H' op t (o_ x||o_ y) a b=some u:=λa b h=>by
      unfold iT at h ⊢;cases hf:flat a&&flat b with
      | true=>rw[hf]at h;exact h
      | false=>
        rw[hf]at h;have h:nk P H op t a b=some u:=h;show nk P H' op t a b=some u;unfold nk at h ⊢;split at h
        . split at h
          . obtain⟨hc,h⟩:=ax h;simp only[Bool.and_eq_true]at hc;rw[mm hext hc.1,mm hext hc.2];exact h
          . cases h
        . exact h
     unfold vy at h ⊢;split at h
     . unfold BD at h ⊢;split at h
       . exact h
       . exact two _ _ h
     . exact two _ _ h
   | _=>rw[ho]at hl;cases hl
theorem gf {an:List Nat}{i:Nat}{chk:List Nat}{rest:List (Nat×List Nat)}(h:e7 ops an done g7 ((i,chk)::rest)=true):
 ∃o,ops[i]? = some o/\i∉done/\du ops done o=true/\
  (iX an i o=true->e7 ops an (i::done) (if kG o.op=true then i::g7 else g7) rest=true)/\
  (iX an i o=false->(vz o.op=true->chk=[])/\(∀j∈rest,∀q,ops[j.1]? = some q->du ops done q=false)/\(∀p∈g7,p∈chk\/p∈BG ops i)/\e7 ops an (i::done) chk rest=true):=by
 unfold e7 at h;cases ho:ops[i]? with
 | none=>simp only[ho]at h;cases h
 | some o=>
   simp only[ho,Bool.and_eq_true,Bool.not_eq_true']at h;obtain⟨⟨h1,h2⟩,h3⟩:=h;refine⟨o,rfl,λq=> ?_,h2,λhc=> ?_,λhc=> ?_⟩
   . have:done.contains i=true:=by simpa using q
     rw[h1]at this;cases this
   . rw[if_pos hc]at h3;exact h3
   . rw[if_neg (by rw[hc];decide)]at h3;simp only[Bool.and_eq_true]at h3;refine⟨λhr=>by simpa[hr]using h3.1.1.1,λj hj q hq=> ?_,λp hp=> ?_,h3.2⟩
     . have:=List.all_eq_true.1 h3.1.1.2 j hj;rw[hq]at this;simpa using this
     . have:=List.all_eq_true.1 h3.1.2 p hp;simpa using this
theorem ke {an:List Nat}:∀(pl:List (Nat×List Nat)) (done g7:List Nat),e7 ops an done g7 pl=true->∀i,i<ops.size->i∈done\/∃c,(i,c)∈pl
 | [],done,g7,h,i,hi=>by
   unfold e7 at h;have:=List.all_eq_true.1 h i (List.mem_range.2 hi);exact .inl (by simpa using this)
 | (j,chk)::rest,done,g7,h,i,hi=>by
   obtain⟨o,_,_,_,h1,h2⟩:=gf h;have key:∀lds',e7 ops an (j::done) lds' rest=true->i∈done\/∃c,(i,c)∈(j,chk)::rest:=λlds' hh=>by
    rcases ke rest (j::done) lds' hh i hi with h | ⟨c,h⟩
    . rcases List.mem_cons.1 h with h | h
      . subst h;exact .inr ⟨chk,by simp⟩
      . exact .inl h
    . exact .inr ⟨c,List.mem_cons_of_mem _ h⟩
   cases hc:iX an j o with
   | true=>exact key _ (h1 hc)
   | false=>exact key _ (h2 hc).2.2.2
theorem cE {o:Oper}:du ops done o=true↔∀e∈o.after,Region.binds .any e=true->e.on∈done:=by
 unfold du;rw[List.all_eq_true];constructor
 . intro h e he hb;have:=h e (by simpa using he);simpa[hb]using this
 . intro h e he;cases hb:Region.binds .any e with
   | false=>rfl
   | true=>simpa using h e (by simpa using he) hb
theorem n5 {i p:Nat}(hna:i∉iK ops){o op:Oper}(ho:ops[i]? = some o)(hp:ops[p]? = some op)(hr:du ops done op=true)(hi:i∉done){d:Tmp}(hd:o.dst=some d):d∉op.looksAt ops:=λhl=>by
 obtain⟨e,he,hb,hon⟩:=fL.1 (ur hna hp ho hd hl);exact hi (hon ▸ cE.1 hr e he hb)
theorem uv (hs:pe ops=true){i p:Nat}{o op:Oper}(ho:ops[i]? = some o)(hp:ops[p]? = some op)(hr:du ops done op=true)(hi:i∉done)(hdeps:∀e∈o.after,Region.binds .any e=true->e.on≠p){d:Tmp}(hd:o.dst=some d):d∉op.looksAt ops:=λhl=>by
 rcases uq hs hp ho hd hl with h | h
 . obtain⟨e,he,hb,hon⟩:=fL.1 h;exact hi (hon ▸ cE.1 hr e he hb)
 . obtain⟨e,he,hb,hon⟩:=fL.1 h;exact hdeps e he hb hon
theorem jf {i p:Nat}{o op:Oper}{u:Value}(hl:∀d,o.dst=some d->d∉op.looksAt ops):bl (bG tm o.dst u) ops op=bl tm ops op:=
 pw λg hg d hd=>by
  rw[eo,if_neg];exact λq=>hl d q (je hg hd)
theorem lT {o op:Oper}{u:Value}(hl:∀d,o.dst=some d->d∉op.looksAt ops):rd P H (bG tm o.dst u) op=rd P H tm op:=
 B5 λx hx=>lS tm o.dst u x λd hd q=>by
  subst q;exact hl d hd (jd hx)
theorem n6 {i p:Nat}{o op:Oper}{u:Value}(hs:pe ops=true)(ho:ops[i]? = some o)(hp:ops[p]? = some op)(hne:i≠p){d:Tmp}(hd:op.dst=some d):
 (bG tm o.dst u).get (bits d)=tm.get (bits d):=by
 rw[eo,if_neg (I8 hs ho hp hd hne)]
theorem uo.next {i p:Nat}{o op:Oper}{u:Value}{κ':Nat->Nat}{hi':Nat}(hs:pe ops=true)(ho:ops[i]? = some o)(hp':ops[p]? = some op)(hne:i≠p)
 (hl:∀d,o.dst=some d->d∉op.looksAt ops) (hk:∀k,k<hi->φ[k]? = some none->φ'[k]? = some none/\hp H' k=hp H k) (hκ:κ' p=κ p) (hhi:hi<=hi')
 (h:uo P φ H tm ops κ lo hi p op):uo P φ' H' (bG tm o.dst u) ops κ' lo hi' p op:=by
 have e1:bl (bG tm o.dst u) ops op=bl tm ops op:=jf (i:=i) (p:=p) hl;have e2:∀d,op.dst=some d->(bG tm o.dst u).get (bits d)=tm.get (bits d):=λd hd=>n6 hs ho hp' hne hd
 rcases h with⟨h1,h2⟩ | ⟨h1,h2,v,h3,h4⟩ | ⟨h1,hal,e,l,mk,h3,h4,h5,h6,h7,h8⟩
 . exact .inl ⟨e1.trans h1,λd hd=>(e2 d hd).trans (h2 d hd)⟩
 . exact .inr (.inl ⟨e1.trans h1,h2,v,λd hd=>(e2 d hd).trans (h3 d hd),λq=>by rw[lT hl,xF q];exact h4 q⟩)
 . refine .inr (.inr ⟨e1.trans h1,hal,e,l,mk,qy (λx hx=>lS tm o.dst u x λd hd q=>by
    subst q;exact hl d hd (jd hx)) h3,?_,?_,?_,?_,λd hd=> ?_⟩)
   . rw[hκ];exact(hk _ h7 h4).1
   . rw[hκ];exact(hk _ h7 h4).2.trans h5
   . rw[hκ];exact h6
   . rw[hκ];omega
   . rw[hκ];exact(e2 d hd).trans (h8 d hd)
theorem rQ (hac:acyclic ops=true){i:Nat}{o:Oper}(ho:ops[i]? = some o):direct o i=false:=by
 cases h:direct o i with
 | false=>rfl
 | true=>
   obtain⟨e,he,hb,hon⟩:=fL.1 h;have h1:=List.all_eq_true.1 hac i (List.mem_range.2 (Array.getElem?_eq_some_iff.1 ho).1);rw[ho]at h1;have h2:=List.all_eq_true.1 h1 e (by simpa using he);simp only[hb,Bool.not_true,Bool.false_or]at h2;have:=dH h2;omega
theorem B9 (hs:pe ops=true)(hac:acyclic ops=true){i:Nat}{o:Oper}(ho:ops[i]? = some o){d:Tmp}(hd:o.dst=some d):d∉o.looksAt ops:=λhl=>by
 have:=(uq hs ho ho hd hl).elim id id;rw[rQ hac ho]at this;cases this
theorem dZ.take {i:Nat}{o:Oper}{chk:List Nat}{rest:List (Nat×List Nat)}(hD:dZ P φ H tm tmps ops done g7 ((i,chk)::rest) π κ lo hi)(ho:ops[i]? = some o)
 (hna:i∉iK ops) (hni:i∉done) (hrdy:du ops done o=true) {lds':List Nat} (hplan:e7 ops (hU ops) (i::done) lds' rest=true) (hsub:∀p∈g7,p∈lds') (hself:kG o.op=true->i∈lds')
 {κ':Nat->Nat} {hi':Nat} (hle:φ.le φ') (hk:∀k,k<hi->φ[k]? = some none->φ'[k]? = some none/\hp H' k=hp H k) (hκ:∀p,p≠i->κ' p=κ p) (hhi:hi<=hi') {u:Value}
 (hdst:∀d,o.dst=some d->d<tmps.size) (hprom:uo P φ' H' (bG tm o.dst u) ops κ' lo hi' i o) (hfresh:nu o.op=true->hi<=κ' i):
 dZ P φ' H' (bG tm o.dst u) tmps ops (i::done) lds' rest π κ' lo hi':=by
 have hisz:i<ops.size:=(Array.getElem?_eq_some_iff.1 ho).1;have hiπ:i∈π:=hD.todo i hisz hni;have nl:∀p,p∈done->∀op,ops[p]? = some op->∀d,o.dst=some d->d∉op.looksAt ops:=λp hpd op hp d hd=>n5 hna ho hp (hD.ready p hpd op hp) hni hd;have hlt:∀q,q∈π->q∈done->∀o',ops[q]? = some o'->nu o'.op=true->bl tm ops o'=some true->κ q<hi:=λq hq hqd o' ho' hal hw=>by
  rcases hD.prom q hq hqd o' ho' with⟨h1,_⟩ | ⟨_,h2,_⟩ | ⟨_,_,_,_,_,_,_,_,_,h7,_⟩
  . rw[hw]at h1;cases h1
  . rw[xG hal]at h2;cases h2
  . exact h7
 refine⟨hD.sa,hD.ac,hplan,hD.EO,λj hj hn=>hD.todo j hj (λq=>hn (List.mem_cons_of_mem _ q)),hD.closed,λj hj x hx=> ?_,λt v hv=> ?_,λj x d hx hxd hj=> ?_,λp hp hpd op hop=> ?_,λp hp hpd op hop hl=> ?_,λp q hp hpd hq hqd x y hx hy hxa hya hxw hyw heq=> ?_,λp hp hpd=>(List.mem_cons.1 hpd).elim (λh=>h ▸ hna) (hD.own p hp)⟩
 . rw[cE];intro e he hb;rcases List.mem_cons.1 hj with h | h
   . subst h;rw[ho]at hx;cases hx;exact List.mem_cons_of_mem _ (cE.1 hrdy e he hb)
   . exact List.mem_cons_of_mem _ (cE.1 (hD.ready j h x hx) e he hb)
 . rw[eo]at hv
   by_cases ht:o.dst=some t
   . refine .inl ⟨i,hiπ,by simp,?_⟩;unfold gG;rw[ho];exact ht
   . rw[if_neg ht]at hv;rcases hD.tr t v hv with⟨p,h1,h2,h3⟩ | ⟨v',a,b⟩
     . exact .inl ⟨p,h1,List.mem_cons_of_mem _ h2,h3⟩
     . exact .inr ⟨v',a,b.mono hle⟩
 . rcases List.mem_cons.1 hj with h | h
   . subst h;rw[ho]at hx;cases hx;exact hdst d hxd
   . exact hD.Ff j x d hx hxd h
 . rcases List.mem_cons.1 hpd with h | h
   . subst h;rw[ho]at hop;cases hop;exact hprom
   . have hne:i≠p:=λq=>hni (q ▸ h);exact(hD.prom p hp h op hop).next hD.sa ho hop hne (nl p h op hop) hk (hκ p (Ne.symm hne)) hhi
 . rcases List.mem_cons.1 hpd with h | h
   . subst h;rw[ho]at hop;cases hop;exact hself hl
   . exact hsub p (hD.g7 p hp h op hop hl)
 . have wst:∀p,p∈done->∀x,ops[p]? = some x->bl (bG tm o.dst u) ops x=some true->bl tm ops x=some true:=λp hpd x hx h=>by
    rw[jf (i:=i) (p:=p) (nl p hpd x hx)]at h;exact h
   rcases List.mem_cons.1 hpd with h | h<;>rcases List.mem_cons.1 hqd with h' | h'
   . rw[h,h']
   . have hne:q≠i:=λz=>hni (z ▸ h');rw[hκ q hne,h]at heq;rw[h]at hx;rw[ho]at hx;cases hx;have:=hfresh hxa;have:=hlt q hq h' y hy hya (wst q h' y hy hyw);omega
   . have hne:p≠i:=λz=>hni (z ▸ h);rw[hκ p hne,h']at heq;rw[h']at hy;rw[ho]at hy;cases hy;have:=hfresh hya;have:=hlt p hp h x hx hxa (wst p h x hx hxw);omega
   . have hne:p≠i:=λz=>hni (z ▸ h);have hne':q≠i:=λz=>hni (z ▸ h');rw[hκ p hne,hκ q hne']at heq;exact hD.inj p q hp h hq h' x y hx hy hxa hya (wst p h x hx hxw) (wst q h' y hy hyw) heq
theorem jc.take {i:Nat}{o:Oper}(hs:pe ops=true)(hready:∀i,i∈done->∀o,ops[i]? = some o->du ops done o=true)(ho:ops[i]? = some o)(hna:i∉iK ops)(hni:i∉done)(hL:jc P H tm ops done π)
 (hext:∀k ob,hp H k=some ob->hp H' k=some ob) {u:Value} (hself:kG o.op=true->bl (bG tm o.dst u) ops o=some true->rd P H' (bG tm o.dst u) o=some u):
 jc P H' (bG tm o.dst u) ops (i::done) π:=by
 intro p hp hpd op hop hl hw;rcases List.mem_cons.1 hpd with h | h
 . subst h;rw[ho]at hop;cases hop;refine⟨u,hself hl hw,λd hd=> ?_⟩;rw[eo,if_pos hd]
 . have nl:∀d,o.dst=some d->d∉op.looksAt ops:=λd hd=>n5 hna ho hop (hready p h op hop) hni hd;have hne:i≠p:=λq=>hni (q ▸ h);rw[jf (i:=i) (p:=p) nl]at hw;obtain⟨v,h1,h2⟩:=hL p hp h op hop hl hw;refine⟨v,?_,λd hd=> ?_⟩
   . rw[lT nl];exact I9 hext h1
   . rw[n6 hs ho hop hne hd];exact h2 d hd
theorem mW {L:List Nat}(hcl:∀i,i∉L->∀o,ops[i]? = some o->∀e∈o.after,Region.binds .any e=true->e.on∉L):∀(q:Nat) (acc:List Nat),(∀x∈acc,x∉L)->∀x∈qa ops q acc,x∉L
 | 0,acc,h,x,hx=>h x hx
 | q+1,acc,h,x,hx=>by
   unfold qa at hx;split at hx
   . rename_i hc;split at hx
     . rename_i o ho;refine mW hcl q _ ?_ x hx;have hq:q∉L:=h q (by simpa using hc);have:∀(es:List Edge) (acc:List Nat),(∀e∈es,e∈o.after)->(∀x∈acc,x∉L)->∀x∈es.foldl (λl e=>if Region.binds .any e=true then e.on::l else l) acc,x∉L:=by
        intro es
        induction es with
        | nil=>exact λacc _ h=>h
        | cons e es ih=>
          intro acc hes h;refine ih _ (λe' he'=>hes e' (List.mem_cons_of_mem _ he')) ?_
          dsimp only
          split
          . rename_i hb;intro x hx;rcases List.mem_cons.1 hx with hx | hx
            . subst hx;exact hcl q hq o ho e (hes e (by simp)) hb
            . exact h x hx
          . exact h
       exact this _ _ (λe he=>by simpa using he) h
     . exact mW hcl q _ h x hx
   . exact mW hcl q _ h x hx
theorem B_ {i:Nat}{π:List Nat}(hlin:nZ ops (i::π))(hcl:∀j,j∉i::π->∀o,ops[j]? = some o->∀e∈o.after,Region.binds .any e=true->e.on∉i::π):
 ∀x∈BG ops i,x∉i::π:=by
 obtain⟨⟨o,ho,hdeps⟩,_⟩:=hlin;unfold BG;rw[ho];refine mW hcl i _ ?_;have:∀(es:List Edge) (acc:List Nat),(∀e∈es,e∈o.after)->(∀x∈acc,x∉i::π)->∀x∈es.foldl (λl e=>if Region.binds .any e=true then e.on::l else l) acc,x∉i::π:=by
  intro es
  induction es with
  | nil=>exact λacc _ h=>h
  | cons e es ih=>
    intro acc hes h;refine ih _ (λe' he'=>hes e' (List.mem_cons_of_mem _ he')) ?_
    dsimp only
    split
    . rename_i hb;intro x hx;rcases List.mem_cons.1 hx with hx | hx
      . subst hx;exact hdeps e (hes e (by simp)) hb
      . exact h x hx
    . exact h
 exact this _ _ (λe he=>by simpa using he) (λx hx=>by cases hx)
theorem dZ.finish {i:Nat}{o:Oper}{chk:List Nat}{rest:List (Nat×List Nat)}(hD:dZ P φ H tm tmps ops done g7 ((i,chk)::rest) (i::π) κ lo hi)(ho:ops[i]? = some o)
 (hE:iX (hU ops) i o=false) {hi':Nat} (hle:φ.le φ') (hk:∀k,k<hi->φ[k]? = some none->φ'[k]? = some none/\hp H' k=hp H k) (hhi:hi<=hi') {u u':Value} (hu:VR φ' u u')
 (hdst:∀d,o.dst=some d->d<tmps.size) (hchk:chk.all (held P H' (bG tm o.dst u) ops)=true):
 dZ P φ' H' (bG tm o.dst u) (gN tmps o.dst u') ops (i::done) chk rest π κ lo hi'/\jc P H' (bG tm o.dst u) ops (i::done) π:=by
 obtain⟨o',ho',hni,hrdy,_,hpl⟩:=gf hD.AY;rw[ho]at ho';cases ho';obtain⟨_,_,hlds,hplan⟩:=hpl hE;obtain⟨⟨o',ho',hdeps⟩,hnπ,hlin⟩:=hD.EO;rw[ho]at ho';cases ho';have hanc:=B_ hD.EO hD.closed;have nl:∀p,p∈π->p∈done->∀op,ops[p]? = some op->∀d,o.dst=some d->d∉op.looksAt ops:=λp hpπ hpd op hp d hd=>uv hD.sa ho hp (hD.ready p hpd op hp) hni (λe he hb q=>hdeps e he hb (by rw[q];exact List.mem_cons_of_mem _ hpπ)) hd;have pd:∀p,p∈π->p∈i::done->p∈done:=λp hp hpd=>(List.mem_cons.1 hpd).resolve_left (λq=>hnπ (q ▸ hp));have inchk:∀p,p∈π->p∈done->∀op,ops[p]? = some op->kG op.op=true->p∈chk:=λp hp hpd op hop hl=>
  (hlds p (hD.g7 p (List.mem_cons_of_mem _ hp) hpd op hop hl)).resolve_right (λq=>hanc p q (List.mem_cons_of_mem _ hp))
 refine⟨⟨hD.sa,hD.ac,hplan,hlin,λj hj hn=> ?_,λj hj x hx e he hb=> ?_,λj hj x hx=> ?_,?_,λj x d hx hxd hj=> ?_,λp hp hpd op hop=> ?_,λp hp hpd op hop hl=>inchk p hp (pd p hp hpd) op hop hl,λp q hp hpd hq hqd x y hx hy hxa hya hxw hyw heq=> ?_,λp hp hpd=>hD.own p (List.mem_cons_of_mem _ hp) (pd p hp hpd)⟩,?_⟩
 . rcases List.mem_cons.1 (hD.todo j hj (λq=>hn (List.mem_cons_of_mem _ q)))with h | h
   . subst h;exact absurd (List.mem_cons_self ..) hn
   . exact h
 . by_cases hji:j=i
   . subst hji;rw[ho]at hx;cases hx;exact λh=>hdeps e he hb (List.mem_cons_of_mem _ h)
   . exact λh=>hD.closed j (λh=>(List.mem_cons.1 h).elim hji hj) x hx e he hb (List.mem_cons_of_mem _ h)
 . rw[cE];intro e he hb;rcases List.mem_cons.1 hj with h | h
   . subst h;rw[ho]at hx;cases hx;exact List.mem_cons_of_mem _ (cE.1 hrdy e he hb)
   . exact List.mem_cons_of_mem _ (cE.1 (hD.ready j h x hx) e he hb)
 . refine(hD.tr.mono hle).put hdst hu λt ht hne=> ?_;obtain⟨p,h1,h2,h3⟩:=ht;rcases List.mem_cons.1 h1 with h | h
   . subst h;exact absurd h2 hni
   . exact⟨p,h,List.mem_cons_of_mem _ h2,h3⟩
 . rw[dm];rcases List.mem_cons.1 hj with h | h
   . subst h;rw[ho]at hx;cases hx;exact hdst d hxd
   . exact hD.Ff j x d hx hxd h
 . have hpd:=pd p hp hpd;have hne:i≠p:=λq=>hni (q ▸ hpd);exact(hD.prom p (List.mem_cons_of_mem _ hp) hpd op hop).next hD.sa ho hop hne (nl p hp hpd op hop) hk rfl hhi
 . have hpd:=pd p hp hpd;have hqd:=pd q hq hqd;have wst:∀p,p∈π->p∈done->∀x,ops[p]? = some x->bl (bG tm o.dst u) ops x=some true->bl tm ops x=some true:=λp hpπ hpd x hx h=>by
    rw[jf (i:=i) (p:=p) (nl p hpπ hpd x hx)]at h;exact h
   exact hD.inj p q (List.mem_cons_of_mem _ hp) hpd (List.mem_cons_of_mem _ hq) hqd x y hx hy hxa hya (wst p hp hpd x hx hxw) (wst q hq hqd y hy hyw) heq
 . intro p hp hpd op hop hl hw;have hpd:=pd p hp hpd;have h1:=List.all_eq_true.1 hchk p (inchk p hp hpd op hop hl);unfold held at h1;rw[hop]at h1;have h1:Hd P H' (bG tm o.dst u) op (bl (bG tm o.dst u) ops op)=true:=h1;rw[hw]at h1;have h1:af (rd P H' (bG tm o.dst u) op) (xp (bG tm o.dst u) op.dst) false=true:=h1;cases hr:rd P H' (bG tm o.dst u) op with
   | none=>rw[hr]at h1;cases h1
   | some v=>
     rw[hr]at h1;have h1:xp (bG tm o.dst u) op.dst v=true:=h1;refine⟨v,rfl,λd hd=> ?_⟩;unfold xp at h1;rw[hd]at h1;cases hg:(bG tm o.dst u).get (bits d)with
     | none=>simp only[hg]at h1;cases h1
     | some v2=>
       simp only[hg]at h1;rw[AW h1]
theorem dZ.head {i:Nat}{o:Oper}{chk:List Nat}{rest:List (Nat×List Nat)}(hD:dZ P φ H tm tmps ops done g7 ((i,chk)::rest) π κ lo hi)(ho:ops[i]? = some o)
 (hE:iX (hU ops) i o=false) (hn:∀q l,π=q::l->q∉done):∃l,π=i::l:=by
 obtain⟨o',ho',hni,hrdy,_,hpl⟩:=gf hD.AY;rw[ho]at ho';cases ho';obtain⟨_,hrest,_,_⟩:=hpl hE;have hi:=hD.todo i (Array.getElem?_eq_some_iff.1 ho).1 hni;cases π with
 | nil=>cases hi
 | cons q l=>
   refine⟨l,?_⟩;have hq:=hn q l rfl;obtain⟨⟨oq,hoq,hdeps⟩,_,_⟩:=hD.EO;have hqsz:=(Array.getElem?_eq_some_iff.1 hoq).1;have hqr:du ops done oq=true:=cE.2 λe he hb=>by
    have h1:=hdeps e he hb;have h2:e.on<ops.size:=by
     have h3:=List.all_eq_true.1 hD.ac q (List.mem_range.2 hqsz);rw[hoq]at h3;have h4:=List.all_eq_true.1 h3 e (by simpa using he);simp only[hb,Bool.not_true,Bool.false_or]at h4;have:=dH h4;omega
    by_cases h5:e.on∈done
    . exact h5
    . exact absurd (hD.todo e.on h2 h5) h1
   rcases ke _ _ _ hD.AY q hqsz with h | ⟨c,h⟩
   . exact absurd h hq
   . rcases List.mem_cons.1 h with h | h
     . cases h;rfl
     . have:=hrest _ h oq hoq;rw[hqr]at this;cases this
theorem dZ.last (hD:dZ P φ H tm tmps ops done g7 [] π κ lo hi)(hn:∀q l,π=q::l->q∉done):π=[]:=by
 cases π with
 | nil=>rfl
 | cons q l=>
   obtain⟨⟨oq,hoq,_⟩,_,_⟩:=hD.EO;rcases ke _ _ _ hD.AY q (Array.getElem?_eq_some_iff.1 hoq).1 with h | ⟨c,h⟩
   . exact absurd h (hn q l rfl)
   . cases h
theorem vZ {pl:List (Nat×List Nat)}(h:rC ops=some pl):pe ops=true/\acyclic ops=true/\e7 ops (hU ops) [] [] pl=true:=by
 unfold rC at h;split at h
 . cases h
 . split at h
   . rename_i hc;cases h;simp only[Bool.and_eq_true]at hc;exact⟨hc.1.1.1,hc.1.1.2,hc.2⟩
   . cases h
theorem dZ.start {pl:List (Nat×List Nat)}(h:rC ops=some pl)(t:Nat)(htr:uk φ (λ_=>False) tm tmps)(lo hi:Nat):
 dZ P φ H tm tmps ops [] [] pl (Region.schedule true ops t) id lo hi/\jc P H tm ops [] (Region.schedule true ops t):=by
 obtain⟨h1,h2,h3⟩:=vZ h;obtain⟨h4,h5⟩:=AX ops h2 t;refine⟨⟨h1,h2,h3,h4,λi hi _=>h5 i hi,λi hi o ho=>absurd (h5 i (Array.getElem?_eq_some_iff.1 ho).1) hi,λi hi=>absurd hi List.not_mem_nil,λt v hv=>(htr t v hv).imp False.elim id,
  λi o d _ _ hi=>absurd hi List.not_mem_nil,λp _ hp=>absurd hp List.not_mem_nil,λp _ hp=>absurd hp List.not_mem_nil,λp q _ hp=>absurd hp List.not_mem_nil,λp _ hp=>absurd hp List.not_mem_nil⟩,λp _ hp=>absurd hp List.not_mem_nil⟩
end
section
variable {P:Program}
def kindOf (kd:Bool):CallKind:=match kd with
 | true=> .deferred
 | false=> .normal
inductive Hj (P:Program)(φ:bO):List (FuncId×List Value)->List Deferred->Prop
 | nil:Hj P φ [] []
 | cons {d:FuncId×List Value} {d':Deferred} {l:List (FuncId×List Value)} {l':List Deferred} (h:Lu P φ d d') (hl:Hj P φ l l'):Hj P φ (d::l) (d'::l')
theorem Hj.mono {φ φ':bO}(hle:φ.le φ'){l:List (FuncId×List Value)}{l':List Deferred}(h:Hj P φ l l'):Hj P φ' l l':=by
 induction h with
 | nil=>exact .nil
 | cons h _ ih=>exact .cons (h.mono hle) ih
def bE (c:Cg)(ds:List Deferred):FB:=⟨c.fn,kindOf c.kd,ds⟩
def eL (m:Option Value):FrameMode:=match m with
 | none=> .returning
 | some v=> .panicking [{ v,recovered:=false }]
def uw:List Frame->List Frame
 | C::r=>(match C.mode with
   | .panicking ({ v,recovered:=false,goexit:=false }::older)=>{ C with mode:= .panicking ({ v,recovered:=true }::older) }::r
   | _=>C::r)
 | []=>[]
def dj (rc:Bool)(cs:List Frame):List Frame:=match rc with
 | true=>uw cs
 | false=>cs
def v5 (φ:bO)(kd:Bool)(rp:Option Value)(rc:Bool)(cs0:List Frame):Prop:=kd=true->match rp with
 | some v=>rc=false/\∃C r v' older,cs0=C::r/\C.mode= .panicking ({ v:=v',recovered:=false,goexit:=false }::older)/\VR φ v v'
 | none=>∀F:Frame,F.kind= .deferred->tryRecover F (dj rc cs0)=none
theorem v5.mono {φ φ':bO}(hle:φ.le φ'){kd:Bool}{rp:Option Value}{rc:Bool}{cs0:List Frame}(h:v5 φ kd rp rc cs0):v5 φ' kd rp rc cs0:=λq=>by
 have:=h q;cases rp with
 | none=>exact this
 | some v=>
   obtain⟨a,C,r,v',older,b,c,d⟩:=this;exact⟨a,C,r,v',older,b,c,d.mono hle⟩
theorem v7 {F:Frame}{cs:List Frame}(h:F.kind= .normal):tryRecover F cs=none:=by
 unfold tryRecover;rw[h]
theorem fC {F C:Frame}{cs:List Frame}(h:F.kind= .deferred):tryRecover F (C::cs)=(match C.mode with
 | .panicking ({ v,recovered:=false,goexit:=false }::older)=>some (v,{ C with mode:= .panicking ({ v,recovered:=true }::older) }::cs)
 | _=>none):=by
 conv=>lhs;unfold tryRecover
 rw[h];rfl
theorem Ca {F:Frame}{cs:List Frame}(h:F.kind= .deferred):tryRecover F (uw cs)=none:=by
 cases cs with
 | nil=>unfold tryRecover;rw[h];rfl
 | cons C r=>
   show tryRecover F (match C.mode with
   | .panicking ({ v,recovered:=false,goexit:=false }::older)=>{ C with mode:= .panicking ({ v,recovered:=true }::older) }::r
   | _=>C::r)=none
   split
   . rw[fC h]
   . rename_i hn;rw[fC h];split
     . rename_i v older q;exact absurd q (hn v older)
     . rfl
theorem A0 {C:Frame}{r:List Frame}(h:∀l,C.mode ≠ .panicking l):uw (C::r)=C::r:=by
 show(match C.mode with
  | .panicking ({ v,recovered:=false,goexit:=false }::older)=>{ C with mode:= .panicking ({ v,recovered:=true }::older) }::r
  | _=>C::r)=C::r
 split
 . rename_i q;exact absurd q (h _)
 . rfl
theorem ux {C:Frame}{r:List Frame}(rc:Bool)(h:∀l,C.mode ≠ .panicking l):dj rc (C::r)=C::r:=by
 cases rc
 . rfl
 . exact A0 h
def Lz (P:Program)(φ:bO)(o:Out)(fr:Frame)(w:World):Prop:=match o with
 | .ret v=>∃v',VR φ v v'/\fr.going P w (.returned v')
 | .eW v=>∃v',VR φ v v'/\fr.going P w (.panicked [{ v:=v',recovered:=false }])
variable {W w w' w1:World}{f fn:FuncId}{cs cs0:List Frame}{r:Rt}{fr fr' fr1:Frame}{φ φ' φ1:bO}{H H' H1:T OB}{nx nx' aI nt lo hi:Nat}{tm:T Value}{tmps:Array Value}{ops:Array Oper}
 {todo k:List Item} {c:Cg} {ds:List Deferred} {kd:Bool} {O:bQ->Option Rt}
def ch (P:Program)(W:World)(kd:Bool)(fn:FuncId)(lo:Nat)(cs0:List Frame)(rc:Bool)(φ:bO)(H:T OB)(r:Rt)(fr:Frame)(w:World):Prop:=
 ∃φ' w' frl,Steps P (lone fr (dj rc cs0) w) (lone frl (dj r.rc cs0) w')/\φ.le φ'/\HR P W φ' (hp r.H) w'/\φ'.length=r.nx/\(∀k,k<lo->φ[k]? = some none->φ'[k]? = some none/\hp r.H k=hp H k)/\
  frl.kind=kindOf kd/\frl.fn=fn/\Lz P φ' r.o frl w'
theorem ch.steps {rc rc1:Bool}(hs:Steps P (lone fr (dj rc cs0) w) (lone fr1 (dj rc1 cs0) w1))(hle:φ.le φ1)(hk:∀k,k<lo->φ[k]? = some none->φ1[k]? = some none/\hp H1 k=hp H k)
 (h:ch P W kd fn lo cs0 rc1 φ1 H1 r fr1 w1):ch P W kd fn lo cs0 rc φ H r fr w:=by
 obtain⟨φ',w',frl,h1,h2,h3,h4,h5,h6,h7,h8⟩:=h;exact⟨φ',w',frl,hs.trans h1,bO.le_trans hle h2,h3,h4,λk hk' q=>⟨(h5 k hk' (hk k hk' q).1).1,(h5 k hk' (hk k hk' q).1).2.trans (hk k hk' q).2⟩,h6,h7,h8⟩
theorem ch.step1 {rc:Bool}(hs:Steps P (lone fr (dj rc cs0) w) (lone fr1 (dj rc cs0) w))(h:ch P W kd fn lo cs0 rc φ H r fr1 w):ch P W kd fn lo cs0 rc φ H r fr w:=
 h.steps hs φ.le_refl λ_ _ q=>⟨q,rfl⟩
theorem mX {a:Rt}(h:(Q.ret a).run O=some r):a=r:=by cases h;rfl
theorem ff (h:Q.bad.run O=some r):False:=by cases h
theorem kV {q:bQ}{g:Rt->Q}(h:(Q.ask q g).run O=some r):∃a,O q=some a/\(g a).run O=some r:=by
 have h:af (O q) (λa=>(g a).run O) none=some r:=h;exact ao h
theorem Cb {q:bQ}(h:(Q.jump q).run O=some r):O q=some r:=h
theorem aZ {α:Type}{x:Option α}{g:α->Q}(h:(af x g .bad).run O=some r):∃a,x=some a/\(g a).run O=some r:=by
 cases x with
 | none=>cases h
 | some a=>exact⟨a,rfl,h⟩
theorem jC {b:Bool}{x:Q}(h:(bif b then x else Q.bad).run O=some r):b=true/\x.run O=some r:=by
 cases b
 . cases h
 . exact⟨rfl,h⟩
theorem dq {b:Bool}{x y:Q}(h:(bK b x y).run O=some r):(b=true/\x.run O=some r)\/(b=false/\y.run O=some r):=by
 cases b
 . exact .inr ⟨rfl,h⟩
 . exact .inl ⟨rfl,h⟩
theorem cb {dst:Option Tmp}{v:Value}{g:T Value->Q}(h:(hQ nt tm dst v g .bad).run O=some r):(∀d,dst=some d->d<nt)/\(g (bG tm dst v)).run O=some r:=by
 cases dst with
 | none=>exact⟨λd hd=>(by cases hd),h⟩
 | some d=>
   obtain⟨h1,h2⟩:=jC (show(bif Nat.blt d nt then cm (bits d) tm (some v) g else Q.bad).run O=some r from h);rw[aA]at h2;exact⟨λd' hd=>by cases hd;exact dH h1,h2⟩
theorem kW {t:Bool}{dst:Option Tmp}{v:Value}{g:T Value->Q}(h:(AK P t nt tm dst v g).run O=some r):(∀d,dst=some d->d<nt)/\(g (bG tm dst v)).run O=some r:=by
 unfold AK at h;rcases dq h with⟨_,h1⟩ | ⟨_,h1⟩
 . unfold E0 at h1;split at h1
   . exact cb h1
   . cases h1
 . exact cb h1
theorem mY {e:dG}{g:Value->T OB->Nat->Q}(h:(bf e g).run O=some r):∃v H nx,e= .val v H nx/\(g v H nx).run O=some r:=by
 cases e with
 | val v H nx=>exact⟨v,H,nx,rfl,h⟩
 | _=>cases h
theorem Cc {x:Option Value}{g:Nat->Nat->Q}(h:(E2 x g).run O=some r):∃b off,x=some (.pointer (some ⟨b,off,none⟩))/\(g b off).run O=some r:=by
 unfold E2 at h;split at h
 . exact⟨_,_,rfl,h⟩
 . cases h
theorem v8 {x:Option OB}{g:Nat->T Value->TypeId->Q}(h:(j7 x g).run O=some r):∃n t e,x=some (.cells n t e)/\(g n t e).run O=some r:=by
 unfold j7 at h;split at h
 . exact⟨_,_,_,rfl,h⟩
 . cases h
theorem gO {α:Type}(v:α):∀(bs:List Bool) (t:T α),t.get bs=some v->set t bs (some v)=t
 | [],.leaf,h=>by cases h
 | [],.node x l r,h=>by have h:x=some v:=h;subst h;rfl
 | b::bs,.leaf,h=>by rw[gI]at h;cases h
 | false::bs,.node x l r,h=>by rw[fI,gO v bs l h]
 | true::bs,.node x l r,h=>by rw[gq,gO v bs r h]
theorem qz {o:Oper}{yes no:T Value->Q}(h:(rD tm ops o.guard yes no).run O=some r):∃b,bl tm ops o=some b/\(b=true->(yes tm).run O=some r)/\(b=false->(no tm).run O=some r):=by
 unfold bl;unfold rD at h;split at h
 . rename_i hg;exact⟨true,(by first | rfl | rw[hg]),λ_=>h,λq=>(by cases q)⟩
 . rename_i p hg;obtain⟨d,hd,h1⟩:=aZ h;show ∃b,af (gG ops p.1) (λd=>iW tm d p.2) none=some b/\_;rw[hd];show ∃b,iW tm d p.2=some b/\_;unfold iW;split at h1
   . rename_i x hx;rw[aA,aA,aA,aA]at h1;refine⟨_,rfl,λq=> ?_,λq=> ?_⟩
     . have q:x=p.2:=by simpa using q
       subst q;rcases dq h1 with⟨h2,h3⟩ | ⟨h2,h3⟩
       . rw[h2]at h3 hx;have h3:(yes (set tm (bits d) (some (.bool true)))).run O=some r:=h3;rwa[gO _ _ _ hx]at h3
       . rw[h2]at h3 hx;have h3:(yes (set tm (bits d) (some (.bool false)))).run O=some r:=h3;rwa[gO _ _ _ hx]at h3
     . have q:x≠p.2:=by simpa using q
       rcases dq h1 with⟨h2,h3⟩ | ⟨h2,h3⟩
       . have:x=false:=by cases x<;>simp_all
         subst this;have h3:(no (set tm (bits d) (some (.bool false)))).run O=some r:=h3;rwa[gO _ _ _ hx]at h3
       . have:x=true:=by cases x<;>simp_all
         subst this;have h3:(no (set tm (bits d) (some (.bool true)))).run O=some r:=h3;rwa[gO _ _ _ hx]at h3
   . rename_i x hx;exact⟨false,rfl,λq=>(by cases q),λ_=>h1⟩
   . cases h1
theorem n7 (hle:φ.le φ')(hk:dU φ φ' (hp H) (hp H')):φ.length<=φ'.length:=by
 rcases Nat.eq_zero_or_pos φ.length with h | h
 . omega
 . have hlt:φ.length-1<φ.length:=by omega
   have hq:=List.getElem?_eq_getElem hlt;cases hx:φ[φ.length-1]with
   | none=>rw[hx]at hq;have:=(List.getElem?_eq_some_iff.1 (hk _ hq).1).1;omega
   | some e=>rw[hx]at hq;have:=(List.getElem?_eq_some_iff.1 (hle _ _ hq)).1;omega
theorem HR.N2 {g:Nat->Option OB}(hH:HR P W φ g w){b n:Nat}{t:T Value}{e:ft}(hg:g b=some .dead)(hb:φ[b]? = some (some e))(hob:tX P W φ (.ro n t) e w):HR P W φ (lH g b (some (.ro n t))) w where
 below:=hH.below
 gl:=hH.gl
 mg:=λk o h=>by
  by_cases hk:k=b
  . subst hk;exact hH.mg k _ hg
  . rw[az g hk]at h;exact hH.mg k o h
 lz:=hH.lz
 inj:=λk k' oa oa' x x' h h' hk hk' hla hla' hr=>by
  have hx:∀j oj,lH g b (some (.ro n t)) j=some oj->live oj=true->g j=some oj:=by
   intro j oj h hl'
   by_cases hj:j=b
   . subst hj;rw[bT]at h;cases h;cases hl'
   . rwa[az g hj]at h
  exact hH.inj k k' _ _ x x' h h' (hx k _ hk hla) (hx k' _ hk' hla') hla hla' hr
 obj:=λk oa x hk h=>by
  by_cases hkb:k=b
  . subst hkb;rw[bT]at hk;cases hk;rw[hb]at h;cases h;exact hob
  . rw[az g hkb]at hk;exact hH.obj k oa x hk h
 jV:=hH.jV
 nK:=λk k' x x' c o h hf h' hk' hl'=>by
  by_cases hkb:k'=b
  . subst hkb;rw[bT]at hk';cases hk';cases hl'
  . rw[az g hkb]at hk';exact hH.nK k k' x x' c o h hf h' hk' hl'
theorem HR.ghost {g:Nat->Option OB}(hH:HR P W φ g w){e:ft}{c:Array Value}{el:TypeId}{fz:Nat×Nat}(hf:e.fz=some c)(hr:w.heap[e.r]? = some (.cells c el fz))
 (hno:∀(k:Nat) (x:ft) (ob:OB),φ[k]? = some (some x)->g k=some ob->live ob=true->x.r≠e.r):HR P W (φ++[some e]) g w where
 below:=hH.below
 gl:=hH.Fb (bS φ _)
 mg:=λk o h=>by have:=hH.mg k o h;simp;omega
 lz:=λk x h=>by
  rcases a9 h with h | ⟨_,h⟩
  . exact hH.lz k x h
  . cases h;exact(Array.getElem?_eq_some_iff.1 hr).1
 inj:=λk k' o1 o2 x x' h h' hg hg' hl hl' hrr=>by
  have l1:=hH.mg k _ hg;have l2:=hH.mg k' _ hg';rcases a9 h with h0 | ⟨hk,_⟩
  . rcases a9 h' with h1 | ⟨hk',_⟩
    . exact hH.inj k k' o1 o2 x x' h0 h1 hg hg' hl hl' hrr
    . omega
  . omega
 obj:=λk oa x hg h=>by
  have l1:=hH.mg k _ hg;rcases a9 h with h0 | ⟨hk,_⟩
  . exact(hH.obj k oa x hg h0).mono (bS φ _)
  . omega
 jV:=λk x c' h hf'=>by
  rcases a9 h with h1 | ⟨_,hx⟩
  . exact hH.jV k x c' h1 hf'
  . cases hx;rw[hf]at hf';cases hf';exact⟨el,fz,hr⟩
 nK:=λk k' x x' c' o h hf' h' hg hl=>by
  have l2:=hH.mg k' _ hg;rcases a9 h' with h2 | ⟨hk',_⟩
  . rcases a9 h with h1 | ⟨_,hx⟩
    . exact hH.nK k k' x x' c' o h1 hf' h2 hg hl
    . cases hx;exact hno k' x' o h2 hg hl
  . omega
theorem HR.grown {g:Nat->Option OB}(hH:HR P W φ g w)(hb:Below w.heap.size w w'):HR P W φ g w':=by
 have hr:∀(k:Nat) (e:ft),φ[k]? = some (some e)->w'.heap[e.r]? = w.heap[e.r]? := λk e h=>hb.block e.r (hH.lz k e h);exact {
  below:=hH.below.trans (hb.mono hH.below.size)
  gl:=hH.gl
  mg:=hH.mg
  lz:=λk e h=>Nat.lt_of_lt_of_le (hH.lz k e h) hb.size
  inj:=hH.inj
  obj:=λk ob e hg h=>(hH.obj k ob e hg h).heap λ_=>hr k e h
  jV:=λk e c h hf=>by obtain⟨el,fz,q⟩:=hH.jV k e c h hf;exact⟨el,fz,by rw[hr k e h];exact q⟩
  nK:=hH.nK }
theorem mn {a:Bool}{s:Nat}:∀(n:Nat) (l es:List Value),chunk a s n l=some es->(a=false->s=1)->(es.all λx=>bK a true (ah x))=true->
 es.length=n/\l.length=n*s/\(∀x∈es,x.cells.toList.length=s)/\∀(i j:Nat) (x v:Value),es[i]? = some x->x.cells.toList[j]? = some v->l[i*s+j]? = some v
 | 0,l,es,h,_,_=>by
   obtain⟨h1,h2⟩:=ax (show(bif l.isEmpty then some []else none)=some es from h);cases h2;exact⟨rfl,by rw[List.isEmpty_iff.1 h1];simp,λx hx=>by simp at hx,λi j x v hi=>by simp at hi⟩
 | n+1,l,es,h,hs,hone=>by
   obtain⟨h1,h2⟩:=ax (show(bif Nat.ble s l.length then af (chunk a s n (l.drop s)) (λr=>bK a (some (.agg ⟨l.take s⟩::r)) (af l.head? (λv=>some (v::r)) none)) none else none)=some es from h);have h1:=bU h1;obtain⟨es',h3,h4⟩:=ao h2;have key:∃x,es=x::es'/\x.cells.toList=l.take s:=by
    cases a with
    | true=>have h4:some (Value.agg ⟨l.take s⟩::es')=some es:=h4;cases h4;exact⟨_,rfl,rfl⟩
    | false=>
      have hs:=hs rfl;subst hs;have h4:af l.head? (λv=>some (v::es')) none=some es:=h4;cases l with
      | nil=>simp at h1
      | cons v l=>
        have h4:some (v::es')=some es:=h4;cases h4;refine⟨v,rfl,?_⟩;have hv:ah v=true:=by
         have:=List.all_eq_true.1 hone v (by simp);exact this
        cases v<;>first | rfl | cases hv
   obtain⟨x,rfl,hx⟩:=key;have hone':(es'.all λx=>bK a true (ah x))=true:=by simp only[List.all_cons,Bool.and_eq_true]at hone;exact hone.2
   obtain⟨h5,h6,h7,h8⟩:=mn n _ _ h3 hs hone';refine⟨by simp[h5],?_,λy hy=> ?_,λi j y v hi hj=> ?_⟩
   . rw[List.length_drop]at h6;rw[Nat.succ_mul];omega
   . rcases List.mem_cons.1 hy with rfl | hy
     . rw[hx];simp;omega
     . exact h7 y hy
   . cases i with
     | zero=>
       simp at hi;subst hi;rw[hx,List.getElem?_take]at hj;split at hj
       . simpa using hj
       . cases hj
     | succ i=>
       have hi:es'[i]? = some y:=by simpa using hi
       have:=h8 i j y v hi hj;rw[List.getElem?_drop]at this;rw[Nat.succ_mul,<- this];congr 1;omega
def eM (P:Program)(W:World)(φ:bO)(H:T OB)(nx:Nat)(w:World)(φ':bO)(H':T OB)(nx':Nat):Prop:=
 φ.le φ'/\HR P W φ' (hp H') w/\φ'.length=nx'/\dU φ φ' (hp H) (hp H')/\nx<=nx'
theorem eM.refl (hH:HR P W φ (hp H) w)(bt:φ.length=nx):eM P W φ H nx w φ H nx:=⟨φ.le_refl,hH,bt,dU.refl _ _,Nat.le_refl _⟩
theorem eM.trans {φ'':bO}{H'':T OB}{nx'':Nat}(h:eM P W φ H nx w φ' H' nx')(h':eM P W φ' H' nx' w φ'' H'' nx''):eM P W φ H nx w φ'' H'' nx'':=
 ⟨bO.le_trans h.1 h'.1,h'.2.1,h'.2.2.1,h.2.2.2.1.trans h'.2.2.2.1,Nat.le_trans h.2.2.2.2 h'.2.2.2.2⟩
theorem ij (hH:HR P W φ (hp H) w)(bt:φ.length=nx){t:TypeId}{v v':Value}(hv:VR φ v v'){g:Value->T OB->Nat->Q}(h:(gH P t v H nx g).run O=some r):
 ∃φ' u H' nx',(g u H' nx').run O=some r/\VR φ' u v'/\eM P W φ H nx w φ' H' nx':=by
 unfold gH at h;split at h
 case h_3=>exact⟨φ,v,H,nx,h,hv,.refl hH bt⟩
 case h_2=>
  rename_i e hu;split at h
  . rename_i b;obtain⟨x,hx,h1⟩:=aZ h;rw[aA,aG]at h1;obtain⟨en,hb,_,rfl⟩:=hv.dx;unfold Lg at hx;obtain⟨m,tr,el,hg,h2⟩:=nG hx;obtain⟨s,hs,h3⟩:=ao h2;obtain⟨a,ha,h4⟩:=ao h3;obtain⟨h5,h6⟩:=ax h4;obtain⟨l,hl,h7⟩:=ao h6;have hms:=beq_eq h5;have key:∃u,x=ae u/\u.cells.toList=l:=by
     cases a with
     | true=>
       have h7:some (ae (.agg ⟨l⟩))=some x:=h7;cases h7;exact⟨_,rfl,rfl⟩
     | false=>
       obtain⟨u,hu',h8⟩:=ao (show af l.head? (λv=>bif Nat.beq l.length 1&&ah v then some (ae v)else none) none=some x from h7);obtain⟨h9,h10⟩:=ax h8;cases h10;simp only[Bool.and_eq_true]at h9;have hl1:=beq_eq h9.1;refine⟨u,rfl,?_⟩;have hcell:u.cells.toList=[u]:=by cases u<;>first | rfl | cases h9.2
       rw[hcell];cases l with
       | nil=>cases hu'
       | cons y l=>
         cases hu';cases l with
         | nil=>rfl
         | cons _ _=>simp at hl1
    obtain⟨u,rfl,hul⟩:=key;have hg':hp H b=some (.cells m tr el):=hg;obtain⟨c,el',hrow,hrsz,hrn,nS⟩:=hH.cells hg' hb;obtain⟨q1,q2⟩:=j8 nS hl (by omega) (by omega);have hkill:HR P W φ (hp (set H (bits b) (some .dead))) w:=by rw[aU];exact hH.kill hg' hb
    have hgh:=hkill.ghost (e:=⟨en.r,en.sz,en.es,some c⟩) rfl hrow (λk x ob hk hgk hlk hr=>by
     rw[aU]at hgk
     by_cases hkb:k=b
     . subst hkb;rw[bT]at hgk;cases hgk;cases hlk
     . rw[az _ hkb]at hgk;exact hkb (hH.inj k b _ _ x en hk hb hgk hg' hlk rfl hr))
    refine⟨_,_,_,_,h1,?_,bS φ _,hgh,by simp[bt],?_,by omega⟩
    . refine VR.ep (e:=⟨en.r,en.sz,en.es,some c⟩) (c:=c) (dI φ _) rfl (by rw[hul,q2];omega) (λj a b' hja hjb=> ?_);rw[hul]at hja;have hjl:=(List.getElem?_eq_some_iff.1 hja).1;refine VR.mono (bS φ _) (q1.at_ j a b' hja ?_);rw[List.drop_zero,List.getElem?_take,if_pos (by omega),Array.getElem?_toList];rw[Nat.zero_add]at hjb;exact hjb
    . intro k hk;refine⟨?_,?_⟩
      . rw[List.getElem?_append_left (List.getElem?_eq_some_iff.1 hk).1];exact hk
      . rw[aU,az];intro q;subst q;rw[hb]at hk;cases hk
  . exact⟨φ,v,H,nx,h,hv,.refl hH bt⟩
 rename_i e hu;split at h
 . rename_i b off n cp;obtain⟨hcp,h⟩:=jC h;simp only[Bool.or_eq_true]at hcp;obtain⟨x,hx,h1⟩:=aZ h;rw[aA,aG]at h1;obtain⟨en,c',hb,_,rfl,hcap⟩:=hv.dQ;unfold EY at hx;obtain⟨m,tr,el,hg,h2⟩:=nG hx;obtain⟨s,hs,h3⟩:=ao h2;obtain⟨a,ha,h4⟩:=ao h3;obtain⟨h5,h6⟩:=ax h4;obtain⟨l,hl,h7⟩:=ao h6;obtain⟨es,hes,h8⟩:=ao h7;obtain⟨h9,h10⟩:=ax h8;cases h10;simp only[Bool.and_eq_true,Bool.or_eq_true]at h5;have hle:=bU h5.1.1;have hs1:a=false->s=1:=λq=>by
    rcases h5.2 with q' | q'
    . rw[q]at q';cases q'
    . exact beq_eq q'
   obtain⟨g1,g2,g3,g4⟩:=mn n l es hes hs1 h9;have hg':hp H b=some (.cells m tr el):=hg;obtain⟨c,el',hrow,hrsz,hrn,nS⟩:=hH.cells hg' hb;obtain⟨q1,q2⟩:=j8 nS hl hle (by omega);have hcl:n<=c':=by
    rcases hcap with⟨q,rfl⟩ | ⟨_,q,_⟩
    . rcases hcp with h' | h'
      . exact absurd (beq_eq h') q
      . exact bU h'
    . exact q
   have hkill:HR P W φ (hp (set H (bits b) (some .dead))) w:=by rw[aU];exact hH.kill hg' hb
   have hgh:=hkill.ghost (e:=⟨en.r,en.sz,en.es,some c⟩) rfl hrow (λk x ob hk hgk hlk hr=>by
    rw[aU]at hgk
    by_cases hkb:k=b
    . subst hkb;rw[bT]at hgk;cases hgk;cases hlk
    . rw[az _ hkb]at hgk;exact hkb (hH.inj k b _ _ x en hk hb hgk hg' hlk rfl hr))
   have hro:=hgh.N2 (b:=b) (n:=m) (t:=tr) (e:=en) (by rw[aU,bT]) (by rw[List.getElem?_append_left (List.getElem?_eq_some_iff.1 hb).1];exact hb) (.inr ⟨_,_,c,dI φ _,rfl,rfl,by omega,nS.mono (bS φ _)⟩);rw[aU,kO,<- aU]at hro;rw[show NV (H.get (bits b))= .ro m tr by rw[hg];rfl]at h1;refine⟨_,_,_,_,h1,?_,bS φ _,hro,by simp[bt],?_,by omega⟩
   . rw[<- g1];have hlen:es.length*s=n*s:=by rw[g1]
     refine VR.row (e:=⟨en.r,en.sz,en.es,some c⟩) (c:=c) (dI φ _) rfl g3 (λ_=> ?_) (by omega) (λi j x u u' hi hj hc=> ?_)
     . rw[hlen];omega
     . have h11:=g4 i j x u hi hj;have hlt:=(List.getElem?_eq_some_iff.1 h11).1;refine VR.mono (bS φ _) (q1.at_ (i*s+j) u u' h11 ?_);rw[List.getElem?_take,if_pos (by omega),List.getElem?_drop,Array.getElem?_toList,<- Nat.add_assoc];exact hc
   . intro k hk;refine⟨?_,?_⟩
     . rw[List.getElem?_append_left (List.getElem?_eq_some_iff.1 hk).1];exact hk
     . rw[aU,az];intro q;subst q;rw[hb]at hk;cases hk
 . rename_i n c;obtain⟨h1,h2⟩:=jC h;simp only[Bool.and_eq_true]at h1;obtain⟨s,hs,h3⟩:=aZ h2;have e1:=beq_eq h1.1;have e2:=beq_eq h1.2;subst e1 e2;have:=hv.al rfl;subst this;exact⟨φ,_,H,nx,h3,.pf s,.refl hH bt⟩
 . exact⟨φ,v,H,nx,h,hv,.refl hH bt⟩
theorem n8:∀(fs:List Field) (cs cs':List Value) (φ:bO) (H:T OB) (nx:Nat),HR P W φ (hp H) w->φ.length=nx->LR φ cs cs'->∀{g:List Value->T OB->Nat->Q},(EZ P fs cs H nx g).run O=some r->
 ∃φ' us H' nx',(g us H' nx').run O=some r/\LR φ' us cs'/\eM P W φ H nx w φ' H' nx'
 | [],cs,cs',φ,H,nx,hH,bt,hl,g,h=>⟨φ,cs,H,nx,h,hl,.refl hH bt⟩
 | f::fs,cs,cs',φ,H,nx,hH,bt,hl,g,h=>by
   obtain⟨v,hv,h1⟩:=aZ (show(af cs[f.offset]? (λv=>gH P f.type v H nx λv H nx=>EZ P fs (cs.set f.offset v) H nx g) .bad).run O=some r from h);obtain⟨v',hv',hvr⟩:=hl.get hv;obtain⟨φ1,u,H1,aI,h2,h3,h4⟩:=ij hH bt hvr h1;have hl1:LR φ1 (cs.set f.offset u) cs':=by
    have:=(hl.mono h4.1).set f.offset h3
    have e:cs'.set f.offset v'=cs':=by
     refine List.ext_getElem? λi=> ?_;rw[List.getElem?_set]
     by_cases hi:f.offset=i
     . subst hi;rw[if_pos rfl,hv',if_pos (List.getElem?_eq_some_iff.1 hv').1]
     . rw[if_neg hi]
    rw[e]at this;exact this
   obtain⟨φ2,us,H2,nx2,h5,h6,h7⟩:=n8 fs _ cs' φ1 H1 aI h4.2.1 h4.2.2.1 hl1 h2;exact⟨φ2,us,H2,nx2,h5,h6,h4.trans h7⟩
theorem v9 (hH:HR P W φ (hp H) w)(bt:φ.length=nx){t:TypeId}{v v':Value}(hv:VR φ v v'){g:Value->T OB->Nat->Q}(h:(j6 P t v H nx g).run O=some r):
 ∃φ' u H' nx',(g u H' nx').run O=some r/\VR φ' u v'/\eM P W φ H nx w φ' H' nx':=by
 unfold j6 at h;split at h
 . split at h
   . obtain⟨c',rfl,h1⟩:=hv.jz;obtain⟨φ',us,H',nx',h2,h3,h4⟩:=n8 _ _ _ _ _ _ hH bt h1 h;exact⟨φ',_,H',nx',h2,h3.agg,h4⟩
   . cases h
 . exact ij hH bt hv h
def Cd (P:Program)(W:World)(O:bQ->Option Rt)(w:World)(one:Value->T OB->Nat->(Value->T OB->Nat->Q)->Q):Prop:=
 ∀(v v':Value) (φ:bO) (H:T OB) (nx:Nat) (r:Rt),HR P W φ (hp H) w->φ.length=nx->VR φ v v'->∀{g:Value->T OB->Nat->Q},(one v H nx g).run O=some r->
  ∃φ' u H' nx',(g u H' nx').run O=some r/\VR φ' u v'/\eM P W φ H nx w φ' H' nx'
theorem kf {one:TypeId->Value->T OB->Nat->(Value->T OB->Nat->Q)->Q}(ho:∀t,Cd P W O w (one t)):∀(l:List (Nat×TypeId)) (cs cs':List Value) (φ:bO) (H:T OB) (nx:Nat),HR P W φ (hp H) w->φ.length=nx->LR φ cs cs'->∀{g:List Value->T OB->Nat->Q},(AI one l cs H nx g).run O=some r->
 ∃φ' us H' nx',(g us H' nx').run O=some r/\LR φ' us cs'/\us.length=cs.length/\eM P W φ H nx w φ' H' nx'
 | [],cs,cs',φ,H,nx,hH,bt,hl,g,h=>⟨φ,cs,H,nx,h,hl,rfl,.refl hH bt⟩
 | p::l,cs,cs',φ,H,nx,hH,bt,hl,g,h=>by
   obtain⟨v,hv,h1⟩:=aZ (show(af cs[p.1]? (λv=>one p.2 v H nx λv H nx=>AI one l (cs.set p.1 v) H nx g) .bad).run O=some r from h);obtain⟨v',hv',hvr⟩:=hl.get hv;obtain⟨φ1,u,H1,aI,h2,h3,h4⟩:=ho p.2 v v' φ H nx r hH bt hvr h1;have hl1:LR φ1 (cs.set p.1 u) cs':=by
    have:=(hl.mono h4.1).set p.1 h3
    have e:cs'.set p.1 v'=cs':=by
     refine List.ext_getElem? λi=> ?_;rw[List.getElem?_set]
     by_cases hi:p.1=i
     . subst hi;rw[if_pos rfl,hv',if_pos (List.getElem?_eq_some_iff.1 hv').1]
     . rw[if_neg hi]
    rw[e]at this;exact this
   obtain⟨φ2,us,H2,nx2,h5,h6,h8,h7⟩:=kf ho l _ cs' φ1 H1 aI h4.2.1 h4.2.2.1 hl1 h2;exact⟨φ2,us,H2,nx2,h5,h6,by rw[h8,List.length_set],h4.trans h7⟩
def O0 (φ:bO)(s:Nat)(c:Array Value)(o:Nat)(es:List Value):Prop:=
 (∀x∈es,x.cells.toList.length=s)/\∀(i j:Nat) (x v v':Value),es[i]? = some x->x.cells.toList[j]? = some v->c[o+i*s+j]? = some v'->VR φ v v'
theorem n9 {one:TypeId->Value->T OB->Nat->(Value->T OB->Nat->Q)->Q}(ho:∀t,Cd P W O w (one t))(offs:List (Nat×TypeId)){s:Nat}{c:Array Value}:∀(es:List Value) (o:Nat) (φ:bO) (H:T OB) (nx:Nat),HR P W φ (hp H) w->φ.length=nx->O0 φ s c o es->o+es.length*s<=c.size->
 ∀{g:List Value->T OB->Nat->Q},(iZ (iY one offs) es H nx g).run O=some r->
 ∃φ' us H' nx',(g us H' nx').run O=some r/\O0 φ' s c o us/\us.length=es.length/\eM P W φ H nx w φ' H' nx'
 | [],o,φ,H,nx,hH,bt,hl,hn,g,h=>⟨φ,[],H,nx,h,⟨λx hx=>by simp at hx,λi j x v v' hi=>by simp at hi⟩,rfl,.refl hH bt⟩
 | x::es,o,φ,H,nx,hH,bt,hl,hn,g,h=>by
   have h:(iY one offs x H nx λv H nx=>iZ (iY one offs) es H nx λl H nx=>g (v::l) H nx).run O=some r:=h;have hxs:=hl.1 x (by simp);rw[List.length_cons,Nat.add_mul,Nat.one_mul]at hn;have step:∃φ1 u H1 aI,(iZ (iY one offs) es H1 aI λl H nx=>g (u::l) H nx).run O=some r/\eM P W φ H nx w φ1 H1 aI/\u.cells.toList.length=s/\∀(j:Nat) (v v':Value),u.cells.toList[j]? = some v->c[o+j]? = some v'->VR φ1 v v':=by
    have hx0:∀(j:Nat) (v v':Value),x.cells.toList[j]? = some v->c[o+j]? = some v'->VR φ v v':=λj v v' hj hc=>hl.2 0 j x v v' rfl hj (by rw[Nat.zero_mul,Nat.add_zero];exact hc)
    by_cases hag:∃cs,x= .agg ⟨cs⟩
    . obtain⟨cs,rfl⟩:=hag;have hlen:((c.toList.drop o).take s).length=s:=by simp;omega
      have hcs:LR φ cs ((c.toList.drop o).take s):=⟨by rw[hlen];exact hxs,λj v v' hj hj'=>hx0 j v v' hj (by
       have hjl:=(List.getElem?_eq_some_iff.1 hj').1;rw[List.getElem?_take,if_pos (by omega),List.getElem?_drop,Array.getElem?_toList]at hj';exact hj')⟩
      obtain⟨φ1,us,H1,aI,h2,h3,h8,h4⟩:=kf ho offs cs _ φ H nx hH bt hcs h;refine⟨φ1,.agg ⟨us⟩,H1,aI,h2,h4,by rw[<- hxs];exact h8,λj v v' hj hc=>h3.at_ j v v' hj ?_⟩;have hjl:j<us.length:=(List.getElem?_eq_some_iff.1 hj).1;have hxs':cs.length=s:=hxs;rw[List.getElem?_take,if_pos (by omega),List.getElem?_drop,Array.getElem?_toList];exact hc
    . have e:iY one offs x H nx (λv H nx=>iZ (iY one offs) es H nx λl H nx=>g (v::l) H nx)=iZ (iY one offs) es H nx λl H nx=>g (x::l) H nx:=by
       cases x<;>first | rfl | exact absurd ⟨_,rfl⟩ hag
      rw[e]at h;exact⟨φ,x,H,nx,h,.refl hH bt,hxs,hx0⟩
   obtain⟨φ1,u,H1,aI,h2,h4,hu,hu'⟩:=step;obtain⟨φ2,us,H2,nx2,h5,h6,h8,h7⟩:=n9 ho offs es (o+s) φ1 H1 aI h4.2.1 h4.2.2.1 ⟨λy hy=>hl.1 y (by simp[hy]),λi j y v v' hi hj hc=>(hl.2 (i+1) j y v v' hi hj (by rw[Nat.add_mul,Nat.one_mul];rw[<- hc];congr 1;omega)).mono h4.1⟩ (by omega) h2;refine⟨φ2,u::us,H2,nx2,h5,⟨λy hy=> ?_,λi j y v v' hi hj hc=> ?_⟩,by rw[List.length_cons,h8,List.length_cons],h4.trans h7⟩
   . rcases List.mem_cons.1 hy with rfl | hy
     . exact hu
     . exact h6.1 y hy
   . cases i with
     | zero=>
       cases hi;rw[Nat.zero_mul,Nat.add_zero]at hc;exact(hu' j v v' hj hc).mono h7.1
     | succ i=>
       refine h6.2 i j y v v' hi hj ?_;rw[Nat.add_mul,Nat.one_mul]at hc;rw[<- hc];congr 1;omega
theorem kg:∀(d:Nat) (t:TypeId),Cd P W O w (hZ P d t)
 | 0,t=>λv v' φ H nx r hH bt hv g h=>ij hH bt hv h
 | d+1,t=>λv v' φ H nx r hH bt hv g h=>by
   obtain⟨φ1,u,H1,aI,h1,h2,h3⟩:=ij hH bt hv (show(gH P t v H nx λu H nx=>bif tM v then(match P.underlying t with | some (.slice e)=>fh u (λs es=>iZ (iY (hZ P d) (cQ P 4 e)) es H nx λes H nx=>bif es.all λx=>Nat.beq x.cells.toList.length s then g (aP s es) H nx else .bad) .bad | _=>g u H nx)else g u H nx).run O=some r from h);cases hb:tM v with
   | false=>
     rw[hb]at h1;exact⟨φ1,u,H1,aI,h1,h2,h3⟩
   | true=>
     rw[hb,cond_true]at h1;split at h1
     . rename_i e _;obtain⟨s,es,rfl,h4⟩:∃s es,u=aP s es/\(iZ (iY (hZ P d) (cQ P 4 e)) es H1 aI λes H nx=>bif es.all λx=>Nat.beq x.cells.toList.length s then g (aP s es) H nx else .bad).run O=some r:=by
        unfold fh at h1;split at h1
        . exact⟨_,_,rfl,h1⟩
        . cases h1
       rcases h2.ga with⟨rfl,_⟩ | ⟨k,o,c',en,c,g1,g2,g3,g4,g5,g6,rfl⟩
       . exact⟨φ1,_,H1,aI,h4,h2,h3⟩
       . cases es with
         | nil=>exact⟨φ1,_,H1,aI,h4,h2,h3⟩
         | cons x es=>
           obtain⟨φ2,us,H2,nx2,k1,k2,k3,k4⟩:=n9 (λt=>kg d t) _ (x::es) o φ1 H1 aI h3.2.1 h3.2.2.1 ⟨g3,g6⟩ (g4 (by simp)) h4;obtain⟨k5,k6⟩:=jC k1;refine⟨φ2,_,H2,nx2,k6,?_,h3.trans k4⟩;rw[<- k3];exact VR.row (k4.1 _ _ g1) g2 k2.1 (λ_=>by rw[k3];exact g4 (by simp)) (by rw[k3];exact g5) k2.2
     . exact⟨φ1,u,H1,aI,h1,h2,h3⟩
theorem v_ (hH:HR P W φ (hp H) w)(bt:φ.length=nx){t:TypeId}{v v':Value}(hv:VR φ v v'){g:Value->T OB->Nat->Q}(h:(bw P t v H nx g).run O=some r):
 ∃φ' u H' nx',(g u H' nx').run O=some r/\VR φ' u v'/\eM P W φ H nx w φ' H' nx':=by
 unfold bw at h;cases hb:j5 v with
 | false=>
   rw[hb]at h;exact kg 100000 t v v' φ H nx r hH bt hv h
 | true=>
   rw[hb,cond_true]at h;cases v<;>first | cases hb | skip
   rename_i cs;obtain⟨cs⟩:=cs;obtain⟨c',rfl,h1⟩:=hv.jz;obtain⟨φ',us,H',nx',h2,h3,_,h4⟩:=kf (λt=>kg 100000 t) _ _ _ _ _ _ hH bt h1 h;exact⟨φ',_,H',nx',h2,h3.agg,h4⟩
theorem kh (ts:Array TypeId):∀(l:List Nat) (vs vs':List Value) (φ:bO) (H:T OB) (nx:Nat),HR P W φ (hp H) w->φ.length=nx->LR φ vs vs'->∀{g:List Value->T OB->Nat->Q},(tN P ts l vs H nx g).run O=some r->
 ∃φ' us H' nx',(g us H' nx').run O=some r/\LR φ' us vs'/\eM P W φ H nx w φ' H' nx'
 | [],cs,cs',φ,H,nx,hH,bt,hl,g,h=>⟨φ,cs,H,nx,h,hl,.refl hH bt⟩
 | i::l,cs,cs',φ,H,nx,hH,bt,hl,g,h=>by
   have go:∀(m:Nat) (t:TypeId) (v v':Value),cs[m]? = some v->cs'[m]? = some v'->(∃φ1 u H1 aI,(tN P ts l (cs.set m u) H1 aI g).run O=some r/\VR φ1 u v'/\eM P W φ H nx w φ1 H1 aI)->
    ∃φ' us H' nx',(g us H' nx').run O=some r/\LR φ' us cs'/\eM P W φ H nx w φ' H' nx':=by
    intro m t v v' hv hv' ⟨φ1,u,H1,aI,h2,h3,h4⟩;have hl1:LR φ1 (cs.set m u) cs':=by
     have:=(hl.mono h4.1).set m h3
     have e:cs'.set m v'=cs':=by
      refine List.ext_getElem? λj=> ?_;rw[List.getElem?_set]
      by_cases hi:m=j
      . subst hi;rw[if_pos rfl,hv',if_pos (List.getElem?_eq_some_iff.1 hv').1]
      . rw[if_neg hi]
     rw[e]at this;exact this
    obtain⟨φ2,us,H2,nx2,h5,h6,h7⟩:=kh ts l _ cs' φ1 H1 aI h4.2.1 h4.2.2.1 hl1 h2;exact⟨φ2,us,H2,nx2,h5,h6,h4.trans h7⟩
   have h:(bif Nat.ble 1000 i then af ts[i-1000]? (λt=>af cs[i-1000]? (λv=>bw P t v H nx λv H nx=>tN P ts l (cs.set (i-1000) v) H nx g) .bad) .bad else
    af ts[i]? (λt=>af cs[i]? (λv=>j6 P t v H nx λv H nx=>tN P ts l (cs.set i v) H nx g) .bad) .bad:Q).run O=some r:=h
   cases hb:Nat.ble 1000 i with
   | true=>
     rw[hb,cond_true]at h;obtain⟨t,_,h0⟩:=aZ h;obtain⟨v,hv,h1⟩:=aZ h0;obtain⟨v',hv',hvr⟩:=hl.get hv;exact go _ t v v' hv hv' (v_ hH bt hvr h1)
   | false=>
     rw[hb,cond_false]at h;obtain⟨t,_,h0⟩:=aZ h;obtain⟨v,hv,h1⟩:=aZ h0;obtain⟨v',hv',hvr⟩:=hl.get hv;exact go _ t v v' hv hv' (v9 hH bt hvr h1)
def NK (tmps:Array Value):ResultVar->Sem Value
 | .tmp t=>pure (tmps.getD t undef)
 | .cell a t=>do loadVar t (<- asAddr (tmps.getD a undef))
theorem ki (hH:HR P W φ (hp H) w)(htr:uk φ (λ_=>False) tm tmps):∀(l:List ResultVar) {g:List Value->Q},(AJ P H tm l g).run O=some r->
 ∃vs vs',(g vs).run O=some r/\LR φ vs vs'/\(l.mapM (NK tmps)).run P w= .ok vs' w
 | [],g,h=>⟨[],[],h,.nil,rfl⟩
 | .tmp t::l,g,h=>by
   obtain⟨v,hv,h1⟩:=aZ (show(af (tm.get (bits t)) (λv=>AJ P H tm l λvs=>g (v::vs)) .bad).run O=some r from h);obtain⟨us,us',h2,h3,h4⟩:=ki hH htr l h1;obtain⟨v',h5,h6⟩:=(htr t v hv).resolve_left id;refine⟨v::us,v'::us',h2,.cons h6 h3,?_⟩;have e:tmps.getD t undef=v':=by simp[Array.getD_eq_getD_getElem?,h5]
   simp only[List.mapM_cons,NK,Sem.run_bind,Sem.run_pure,Result.andThen_ok,e,h4]
 | .cell a t::l,g,h=>by
   obtain⟨v,hv,h1⟩:=aZ (show(af (aj P H t (tm.get (bits a))) (λv=>AJ P H tm l λvs=>g (v::vs)) .bad).run O=some r from h);obtain⟨us,us',h2,h3,h4⟩:=ki hH htr l h1;cases ha:tm.get (bits a)with
   | none=>rw[ha]at hv;cases hv
   | some pv=>
     rw[ha]at hv;obtain⟨pv',h5,h6⟩:=(htr a pv ha).resolve_left id;obtain⟨v',ad,h7,h8,h9⟩:=kJ hH (y:=pv') (λu hu=>by cases hu;exact h6) hv;subst h7;refine⟨v::us,v'::us',h2,.cons h8 h3,?_⟩;have e1:tmps.getD a undef= .pointer (some ad):=by simp[Array.getD_eq_getD_getElem?,h5]
     simp only[List.mapM_cons,NK,Sem.run_bind,e1,asAddr,Sem.run_pure,Result.andThen_ok,h9,h4]
theorem Fh {vs vs':List Value}(h:LR φ vs vs'):VR φ (Li vs) (if h:vs'.toArray.size=1 then vs'.toArray[0]else .tuple vs'.toArray):=by
 cases vs with
 | nil=>cases h.jy;exact .flat _ rfl
 | cons a l=>
   obtain⟨a',l',rfl,h4,h5⟩:=h.inv;cases l with
   | nil=>cases h5.jy;exact h4
   | cons b m=>
     obtain⟨b',m',rfl,_,_⟩:=h5.inv;rw[dif_neg (by simp)];exact h.tuple
theorem eM.fin (h:eM P W φ H nx w φ' H' nx'){rc:Bool}(h':ch P W kd fn lo cs0 rc φ' H' r fr w):ch P W kd fn lo cs0 rc φ H r fr w:=
 h'.steps (.refl _ _) h.1 λk _ q=>h.2.2.2.1 k q
theorem Fi {pl:hY}(hH:HR P W φ (hp H) w)(bt:φ.length=nx)(hkd:c.kd=kd)(hfn:c.fn=fn)(htr:uk φ (λ_=>False) tm tmps)(h:(IP P pl c tm H nx).run O=some r):
 ch P W kd fn lo cs0 c.rc φ H r { cA (bE c []) tmps todo with mode:= .returning } w:=by
 unfold IP at h;obtain⟨fd,hfd,h1⟩:=aZ h;obtain⟨vs,vs',h2,h3,h4⟩:=ki hH htr _ h1;obtain⟨φ',us,H',nx',h5,h6,h7⟩:=kh fd.resultTypes _ _ _ φ H nx hH bt h3 h2;have h5:=mX h5;subst h5;have h8:(results fd tmps).run P w= .ok (if h:vs'.toArray.size=1 then vs'.toArray[0]else .tuple vs'.toArray) w:=by
  have e:results fd tmps=(do let vs <- fd.results.mapM (NK tmps);pure (if h:vs.size=1 then vs[0]else .tuple vs)):=rfl;rw[e,Sem.run_bind,Array.mapM_eq_mapM_toList,Sem.run_map,h4];rfl
 refine h7.fin ⟨φ',w,_,.refl _ _,φ'.le_refl,h7.2.1,h7.2.2.1,λk _ q=>⟨q,rfl⟩,?_,?_,_,Fh h6,rfl,rfl,fd,?_,h8⟩
 . show kindOf c.kd=kindOf kd;rw[hkd]
 . exact hfn
 . exact hfd
end
section
variable {P:Program}{W w w' w1:World}{f fn:FuncId}{cs cs0:List Frame}{r r1:Rt}{fr fr' fr1:Frame}{φ φ' φ1:bO}{H H' H1:T OB}{nx nx' aI nt lo hi:Nat}{tm:T Value}{tmps:Array Value}{ops:Array Oper}
 {todo k:List Item} {c:Cg} {ds:List Deferred} {kd:Bool} {O:bQ->Option Rt} {pl:hY}
structure Fx (P:Program)(W:World)(lo:Nat)(cs0:List Frame)(c:Cg)(φ:bO)(H:T OB)(nx:Nat)(tmps:Array Value)(ds:List Deferred)(w:World):Prop where
 hH:HR P W φ (hp H) w
 bt:φ.length=nx
 jW:lo<=nx
 jA:tmps.size=c.nt
 rR:Hj P φ c.df ds
 nS:v5 φ c.kd c.rp c.rc cs0
def kX (P:Program)(W:World)(c:Cg)(tm:T Value)(todo:List Item)(H:T OB)(nx:Nat)(r:Rt):Prop:=
 ∀φ w lo tmps ds cs0,Fx P W lo cs0 c φ H nx tmps ds w->uk φ (λ_=>False) tm tmps->ch P W c.kd c.fn lo cs0 c.rc φ H r (cA (bE c ds) tmps todo) w
def I_ (P:Program)(W:World)(f:FuncId)(args:List Value)(kd:Bool)(rp:Option Value)(H:T OB)(nx:Nat)(r:Rt):Prop:=
 ∀φ w args' cs0,HR P W φ (hp H) w->φ.length=nx->LR φ args args'->v5 φ kd rp false cs0->ch P W kd f nx cs0 false φ H r (Frame.enter P f args'.toArray (kindOf kd)) w
def Ce (P:Program)(W:World)(q:bQ)(r:Rt):Prop:=match q with
 | .call f args kd rp H nx=>I_ P W f args kd rp H nx r
 | .at c tm todo H nx=>kX P W c tm todo H nx r
def iM (P:Program)(W:World)(O:bQ->Option Rt):Prop:=∀q r,O q=some r->Ce P W q r
def xH (P:Program)(W:World)(O:bQ->Option Rt)(K:Kt)(todo:List Item):Prop:=∀c tm H nx r,(K c tm H nx).run O=some r->kX P W c tm todo H nx r
theorem kX.step1 {todo':List Item}(hs:∀(ds:List Deferred) (tmps:Array Value) (cs:List Frame) (w:World),Steps P (lone (cA (bE c ds) tmps todo) cs w) (lone (cA (bE c ds) tmps todo') cs w))(h:kX P W c tm todo' H nx r):
 kX P W c tm todo H nx r:=λφ w lo tmps ds cs0 x htr=>(h φ w lo tmps ds cs0 x htr).step1 (hs _ _ _ _)
theorem uy (hk:∀k,k<φ.length->φ[k]? = some none->φ'[k]? = some none/\hp H' k=hp H k):dU φ φ' (hp H) (hp H'):=λk q=>hk k (List.getElem?_eq_some_iff.1 q).1 q
inductive NL (φ:bO):Mq->Option Value->Prop
 | ret:NL φ .ret none
 | eW {v v':Value} (h:VR φ v v'):NL φ (.eW v) (some v')
theorem A1 (m:Option Value):eL m ≠ .run:=by cases m<;>simp[eL]
theorem mZ (hO:iM P W O):∀(l:List (FuncId×List Value)) (m:Mq) (mv:Option Value) (φ:bO) (H:T OB) (nx:Nat) (ds:List Deferred) (w:World),HR P W φ (hp H) w->φ.length=nx->lo<=nx->Hj P φ l ds->NL φ m mv->
 uk φ (λ_=>False) tm tmps->(kH P pl c tm l m H nx).run O=some r->ch P W c.kd c.fn lo cs0 c.rc φ H r { cA (bE c ds) tmps todo with mode:=eL mv } w
 | [],m,mv,φ,H,nx,ds,w,hH,bt,jW,rR,hm,htr,h=>by
   cases rR;have h:(vD P pl c tm m H nx).run O=some r:=h;unfold vD at h;cases hm with
   | ret=>exact Fi hH bt rfl rfl htr h
   | @eW v v' hv=>
     obtain⟨fd,hfd,h⟩:=aZ h;have h:=mX h;subst h;exact⟨φ,w,_,.refl _ _,φ.le_refl,hH,bt,λk _ q=>⟨q,rfl⟩,rfl,rfl,v',hv,rfl,rfl,fd,hfd⟩
 | (g,args)::l,m,mv,φ,H,nx,ds,w,hH,bt,jW,rR,hm,htr,h=>by
   cases rR with
   | @cons _ d' _ ds' hd hl=>
     obtain⟨a',cap',rfl,hLR,hok⟩:=hd;obtain⟨r1,h1,h2⟩:=kV (show(Q.ask (.call g args true (IN m) H nx) λr=>Lj m r (kH P pl c tm l)).run O=some r from h);have hinv:(invoke (.fn (.func g) ⟨cap'⟩) a').run P w= .ok (.enter g (a'++⟨cap'⟩)) w:=kT hok _ _;have e:(a'++⟨cap'⟩:Array Value)=(a'.toList++cap').toArray:=Array.ext' (by simp);have hst:=step_defer (P:=P) (fr:={ cA (bE c ({ target:= .fn (.func g) ⟨cap'⟩,args:=a' }::ds')) tmps todo with mode:=eL mv }) (cs:=dj c.rc cs0) (A1 mv) rfl rfl hinv;rw[e]at hst;have hrcv:v5 φ true (IN m) false ({ cA (bE c ds') tmps todo with mode:=eL mv }::dj c.rc cs0):=λ_=>by
      cases hm with
      | ret=>exact λF hF=>(fC (C:={ cA (bE c ds') tmps todo with mode:=eL none }) (cs:=dj c.rc cs0) hF).trans rfl
      | eW hv=>exact⟨rfl,_,_,_,[],rfl,rfl,hv⟩
     obtain⟨φ1,w1,frl,s1,hle,hH1,hl1,hk1,hkk,hff,ho1⟩:=hO _ _ h1 φ w _ _ hH bt hLR hrcv;unfold Lj at h2;cases hr1:r1.o with
     | eW v=>rw[hr1]at h2;cases h2
     | ret v=>
       rw[hr1]at h2 ho1;obtain⟨v',hv',hgo⟩:=ho1;have h2:(kH P pl c tm l (bK r1.rc .ret m) r1.H r1.nx).run O=some r:=h2;have hlen:=n7 hle (uy (λk hk q=>hk1 k (by rw[<- bt];exact hk) q));have back:∃mv1,NL φ1 (bK r1.rc .ret m) mv1/\Steps P (lone frl (dj r1.rc ({ cA (bE c ds') tmps todo with mode:=eL mv }::dj c.rc cs0)) w1) (lone { cA (bE c ds') tmps todo with mode:=eL mv1 } (dj c.rc cs0) w1):=by
        cases nS:r1.rc with
        | false=>
          cases hm with
          | ret=>exact⟨none,.ret,.one (step_going_returned (c:={ cA (bE c ds') tmps todo with mode:=eL none }) hkk hgo)⟩
          | eW hv=>exact⟨some _,.eW (hv.mono hle),.one (step_going_returned (c:={ cA (bE c ds') tmps todo with mode:=eL (some _) }) hkk hgo)⟩
        | true=>
          refine⟨none,.ret,?_⟩;cases hm with
          | ret=>exact .one (step_going_returned (c:={ cA (bE c ds') tmps todo with mode:=eL none }) hkk hgo)
          | @eW u u' hv=>exact .one (step_going_returned (c:={ cA (bE c ds') tmps todo with mode:= .panicking [{ v:=u',recovered:=true }] }) hkk hgo)
       obtain⟨mv1,hm1,hs1⟩:=back;have ih:=mZ hO l (bK r1.rc .ret m) mv1 φ1 r1.H r1.nx ds' w1 hH1 hl1 (by omega) (hl.mono hle) hm1 (htr.mono hle) h2;exact ih.steps (.head hst (s1.trans hs1)) hle λk hk q=>hk1 k (by omega) q
theorem lU (hO:iM P W O)(ht:todo=[]\/∃k,todo= .code .ret::k):xH P W O (rE P pl) todo:=λc tm H nx r h φ w lo tmps ds cs0 x htr=>by
 have hs:Steps P (lone (cA (bE c ds) tmps todo) (dj c.rc cs0) w) (lone { cA (bE c ds) tmps todo with mode:=eL none } (dj c.rc cs0) w):=by
  rcases ht with rfl | ⟨k,rfl⟩
  . exact .one (step_end (b:=cA (bE c ds) #[] []) (a:=⟨tmps,ds⟩))
  . exact .one (step_ret (b:=cA (bE c ds) #[] []) (a:=⟨tmps,ds⟩))
 exact(mZ hO c.df .ret none φ H nx ds w x.hH x.bt x.jW x.rR .ret htr h).step1 hs
theorem xI (hO:iM P W O){g:FuncId}{args args':List Value}(h1:O (.call g args false none H nx)=some r1)(hH:HR P W φ (hp H) w)(bt:φ.length=nx)(hLR:LR φ args args'){C:Frame}(hC:C.mode= .run)(cs:List Frame):
 ∃φ1 w1,φ.le φ1/\HR P W φ1 (hp r1.H) w1/\φ1.length=r1.nx/\dU φ φ1 (hp H) (hp r1.H)/\nx<=r1.nx/\(match r1.o with
  | .ret v=>∃v',VR φ1 v v'/\Steps P (lone (Frame.enter P g args'.toArray .normal) (C::cs) w) (lone (C.finish v') cs w1)
  | .eW v=>∃v',VR φ1 v v'/\Steps P (lone (Frame.enter P g args'.toArray .normal) (C::cs) w) (lone { C with mode:=eL (some v') } cs w1)):=by
 have hC':∀l,C.mode ≠ .panicking l:=λl q=>by rw[hC]at q;cases q
 obtain⟨φ1,w1,frl,s1,hle,hH1,hl1,hk1,hkk,hff,ho1⟩:=hO _ _ h1 φ w _ (C::cs) hH bt hLR (λq=>by cases q);have hkeep:dU φ φ1 (hp H) (hp r1.H):=uy (λk hk q=>hk1 k (by rw[<- bt];exact hk) q);rw[ux _ hC',ux _ hC']at s1;refine⟨φ1,w1,hle,hH1,hl1,hkeep,by have:=n7 hle hkeep;omega,?_⟩;cases hr1:r1.o with
 | ret v=>
   rw[hr1]at ho1;obtain⟨v',hv',hgo⟩:=ho1;refine⟨v',hv',s1.trans (.one (step_leave_returned ?_))⟩;obtain⟨a,b,c⟩:=hgo;exact⟨a,b,hkk,c⟩
 | eW v=>
   rw[hr1]at ho1;obtain⟨v',hv',hgo⟩:=ho1;refine⟨v',hv',s1.trans (.one ?_)⟩;have:=step_going_panicked (c:=C) (cs:=cs) hgo;rw[show raised C.mode [{ v:=v',recovered:=false }]=eL (some v')from by rw[hC];rfl]at this;exact this
theorem rS {fb:FB}{o:Oper}{i:Nat}{rest:List Nat}{v:Value}(ho:ops[i]? = some o)(hw:Region.wanted o (yielded ops tmps)=true)
 (he:gr P W φ H w ((execOp (cJ tmps) o).run P w) v H' nx'):
 ∃φ' v' w',step P (lone (cA fb tmps (.inRegion ops (i::rest)::k)) cs w)= .next (lone (cA fb (gN tmps o.dst v') (.inRegion ops rest::k)) cs w')/\
  VR φ' v v'/\φ.le φ'/\HR P W φ' (hp H') w'/\φ'.length=nx'/\dU φ φ' (hp H) (hp H'):=by
 obtain⟨φ',v',w',x,hr,hx,h1,h2,h3,h4,h5⟩:=he;refine⟨φ',v',w',?_,h1,h2,h3,h4,h5⟩;rcases hx with rfl | ⟨rfl,rfl⟩
 . exact dJ ho hw hr
 . exact n0 ho hw hr
theorem Cf {l:List Operand}:∀t,Operand.tmp t∈l->¬(λ(_:Nat)=>False) t:=λ_ _ h=>h
theorem Fx.next (x:Fx P W lo cs0 c φ H nx tmps ds w)(hle:φ.le φ')(hH:HR P W φ' (hp H') w')(hl:φ'.length=nx')(hn:nx<=nx'){tmps':Array Value}(jA:tmps'.size=tmps.size):Fx P W lo cs0 c φ' H' nx' tmps' ds w':=
 ⟨hH,hl,Nat.le_trans x.jW hn,jA.trans x.jA,x.rR.mono hle,x.nS.mono hle⟩
theorem uk.refine {M:Nat->Prop}(h:uk φ M tm tmps){d:Tmp}{v v':Value}(hd:tmps[d]? = some v')(hv:VR φ v v'):uk φ M (bG tm (some d) v) tmps:=λt u q=>by
 rw[eo]at q;split at q
 . rename_i e;cases e;cases q;exact .inr ⟨v',hd,hv⟩
 . exact h t u q
theorem Ch (hH:HR P W φ (hp H) w)(bt:φ.length=nx){o:Oper}{e:TypeId}{x:Operand}(ho:o.op= .box e x)(hE:∀v,aS P tm x=some v->VR φ v (cJ tmps x)){u:Value}(hu:aS P tm x=some u):
 ∃φ' v' w',(execOp (cJ tmps) o).run P w= .ok (.value v') w'/\VR φ' (ae u) v'/\φ.le φ'/\HR P W φ' (hp H) w'/\φ'.length=nx+1/\dU φ φ' (hp H) (hp H):=by
 have hc:=(hE u hu).cells;have hb:Below w.heap.size w (w.alloc (.cells (cJ tmps x).cells e)):=(Below.refl w.heap.size w).alloc (Nat.le_refl _) _;refine⟨φ++[some ⟨w.heap.size,0,0,some (cJ tmps x).cells⟩],.pointer (some ⟨w.heap.size,0,none⟩),w.alloc (.cells (cJ tmps x).cells e),?_,?_,bS φ _,?_,by simp[bt],?_⟩
 . simp[execOp,ho,Instr.box,newVar,newRow]
 . refine VR.ep (e:=⟨w.heap.size,0,0,some (cJ tmps x).cells⟩) (dI φ _) rfl (by rw[hc.len];simp) (λj a b ha hb=> ?_);rw[Nat.zero_add]at hb;exact(hc.at_ j a b ha (by simpa using hb)).mono (bS φ _)
 . refine(hH.grown hb).ghost (el:=e) (fz:=(0,0)) rfl (Go.heap_alloc_new w _) (λk y ob hk _ _ q=> ?_);have:=hH.lz k y hk;have q:y.r=w.heap.size:=q;omega
 . intro k hk;refine⟨?_,rfl⟩;rw[List.getElem?_append_left (List.getElem?_eq_some_iff.1 hk).1];exact hk
theorem wa (hH:HR P W φ (hp H) w)(bt:φ.length=nx){o:Oper}{t:TypeId}{d:Tmp}{x:Operand}(ho:o.op= .store t (.tmp d) x)(hE:lA P φ tm (cJ tmps) [.tmp d,x]){b n s:Nat}{tr:T Value}{el:TypeId}{u:Value}
 (ha:aS P tm (.tmp d)=some (.pointer (some ⟨b,0,none⟩))) (hu:aS P tm x=some u) (hg:H.get (bits b)=some (.cells n tr el)) (hs:aE P t=some s) (hn:n=s) (hl:u.cells.toList.length=s) (hone:u.cells.toList.all ah=true):
 ∃φ' v' w' y,(execOp (cJ tmps) o).run P w= .ok y w'/\(y= .value v'\/(y= .skip/\v'=undef))/\v'=undef/\VR φ' (ae u) (cJ tmps (.tmp d))/\φ.le φ'/\HR P W φ' (hp (set H (bits b) (some .dead))) w'/\φ'.length=nx+1/\dU φ φ' (hp H) (hp (set H (bits b) (some .dead))):=by
 subst hn;have hef:bY P H nx t (aS P tm (.tmp d)) (aS P tm x)= .val undef (set H (bits b) (some (.cells n (dw u.cells.toList 0 tr) el))) nx:=by
  rw[ha,hu];show cP (H.get (bits b)) (λn tr e=>af (aE P t) (λs=>bif Nat.beq u.cells.toList.length s&&Nat.ble (0+s) n&&u.cells.toList.all ah then
   dE u.cells.toList 0 tr λtr=>cm (bits b) H (some (.cells n tr e)) λH=>dG.val undef H nx else .bad) .bad) .bad=_
  rw[hg];show af (aE P t) (λs=>bif Nat.beq u.cells.toList.length s&&Nat.ble (0+s) n&&u.cells.toList.all ah then
   dE u.cells.toList 0 tr λtr=>cm (bits b) H (some (.cells n tr el)) λH=>dG.val undef H nx else .bad) .bad=_
  rw[hs,aw,hl,hone,cc,aA];have e1:Nat.beq n n=true:=Nat.beq_refl n;have e2:Nat.ble (0+n) n=true:=by rw[Nat.zero_add];exact Nat.ble_eq_true_of_le (Nat.le_refl n)
  rw[e1,e2];rfl
 obtain⟨φ1,v',w1,y,hr,hy,h1,h2,h3,h4,h5⟩:=t_ hH bt ho hE hef;obtain⟨en,hb,_,hp1⟩:=(hE (.tmp d) (by simp) _ ha).dx;have hb1:=h2 b en hb;have hg1:hp (set H (bits b) (some (.cells n (dw u.cells.toList 0 tr) el))) b=some (.cells n (dw u.cells.toList 0 tr) el):=by rw[aU,bT]
 obtain⟨c,el',hrow,hrsz,hrn,nS⟩:=h3.cells hg1 hb1;have hk:=h3.kill hg1 hb1;rw[aU,kO,<- aU]at hk;have hgh:=hk.ghost (e:=⟨en.r,en.sz,en.es,some c⟩) rfl hrow (λk x ob hk' hgk hlk hr=>by
  rw[aU]at hgk
  by_cases hkb:k=b
  . subst hkb;rw[bT]at hgk;cases hgk;cases hlk
  . rw[az _ hkb]at hgk;exact hkb (h3.inj k b _ _ x en hk' hb1 (by rw[aU,az _ hkb];exact hgk) hg1 hlk rfl hr))
 refine⟨_,v',w1,y,hr,hy,h1.al rfl,?_,bO.le_trans h2 (bS φ1 _),hgh,by simp[h4],?_⟩
 . rw[hp1];refine VR.ep (e:=⟨en.r,en.sz,en.es,some c⟩) (c:=c) (dI φ1 _) rfl (by rw[hl];omega) (λj a b' hja hjb=> ?_);have hjl:j<u.cells.toList.length:=(List.getElem?_eq_some_iff.1 hja).1;obtain⟨a',g1,g2⟩:=nS j (by omega) a (by rw[cB,if_pos (by omega),Nat.sub_zero];exact hja);rw[Nat.zero_add,g1]at hjb;cases hjb;exact g2.mono (bS φ1 _)
 . intro k hk';obtain⟨q1,q2⟩:=h5 k hk';refine⟨?_,?_⟩
   . rw[List.getElem?_append_left (List.getElem?_eq_some_iff.1 q1).1];exact q1
   . rw[aU,az];intro q;subst q;rw[hb]at hk';cases hk'
theorem Ci {o:Oper}(h:E3 pl fn o=true):(∃e x,o.op= .box e x)\/∃t d x,o.op= .store t (.tmp d) x:=by
 unfold E3 at h;split at h
 . rename_i e x ho;exact .inl ⟨e,x,ho⟩
 . rename_i t d x ho;exact .inr ⟨t,d,x,ho⟩
 . cases h
theorem jg (hO:iM P W O){K:Kt}(hK:xH P W O K k):∀l:List Nat,xH P W O (jT P pl ops K l) (.inRegion ops l::k)
 | [],c,tm,H,nx,r,h=>(hK c tm H nx r h).step1 λds tmps cs w=> .one (step_region_end (b:=cA (bE c ds) #[] []) (a:=⟨tmps,ds⟩))
 | i::rest,c,tm,H,nx,r,h=>λφ w lo tmps ds cs0 x htr=>by
   obtain⟨o,ho,h⟩:=aZ (show(Ev.af ops[i]? (NX P pl ops c tm H nx (jT P pl ops K rest)) .bad).run O=some r from h);unfold NX at h;obtain⟨b,hb,hy,hn⟩:=qz h;have hw:Region.wanted o (yielded ops tmps)=b:=lR htr (λ_ _ _ _ h=>h) hb;have hE:lA P φ tm (cJ tmps) o.op.operands.toList:=rP x.hH.gl htr Cf;have next:∀{φ':bO} {H':T OB} {nx':Nat} {w':World} {v v':Value},
    Steps P (lone (cA (bE c ds) tmps (.inRegion ops (i::rest)::k)) (dj c.rc cs0) w) (lone (cA (bE c ds) (gN tmps o.dst v') (.inRegion ops rest::k)) (dj c.rc cs0) w')->
    φ.le φ'->HR P W φ' (hp H') w'->φ'.length=nx'->nx<=nx'->dU φ φ' (hp H) (hp H')->VR φ' v v'->((∀d,o.dst=some d->d<c.nt)/\(jT P pl ops K rest c (bG tm o.dst v) H' nx').run O=some r)->
    ch P W c.kd c.fn lo cs0 c.rc φ H r (cA (bE c ds) tmps (.inRegion ops (i::rest)::k)) w:=λhs hle hH' hl hn hkp hv hq=>by
    obtain⟨hd,hq⟩:=hq;have hd':∀d,o.dst=some d->d<tmps.size:=λd h=>by rw[x.jA];exact hd d h
    exact ch.steps hs hle (λk _ q=>hkp k q) (jg hO hK rest _ _ _ _ _ hq _ _ _ _ ds cs0 (x.next hle hH' hl hn (dm ..)) ((htr.mono hle).put hd' hv λt h _=>h))
   cases b with
   | false=>exact next (.one (n2 ho hw)) φ.le_refl x.hH x.bt (Nat.le_refl _) (dU.refl _ _) (.flat undef rfl) (cb (hn rfl))
   | true=>
     have h:=hy rfl;unfold OX at h;rcases dq h with⟨hrd,h⟩ | ⟨hrd,h⟩
     . obtain⟨v,hv,h⟩:=aZ h;obtain⟨v',h1,h2⟩:=nO x.hH hE hv;exact next (.one (dJ ho hw h2)) φ.le_refl x.hH x.bt (Nat.le_refl _) (dU.refl _ _) h1 (kW h)
     . rcases dq h with⟨hct,h⟩ | ⟨hct,h⟩
       . cases he:ef P H nx tm o with
         | bad=>rw[he]at h;cases h
         | val v H' nx'=>rw[he]at h;cases h
         | call g args=>
           rw[he]at h;obtain⟨args',h1,hok,h2⟩:=xE hE he;obtain⟨r1,h3,h4⟩:=kV (show(Q.ask (.call g args false none H nx) _).run O=some r from h);obtain⟨φ1,w1,hle,hH1,hl1,hkp,hn1,ho1⟩:=xI hO h3 x.hH x.bt h1 (C:=cA (bE c ds) tmps (.inRegion ops (i::rest)::k)) rfl (dj c.rc cs0);cases hr1:r1.o with
           | ret v=>
             rw[hr1]at ho1;simp only[hr1]at h4;obtain⟨v',hv',hs⟩:=ho1;rw[kc ho]at hs;exact next (.head (ig ho hw (h2 w)) hs) hle hH1 hl1 hn1 hkp hv' (kW h4)
           | eW v=>
             rw[hr1]at ho1;simp only[hr1]at h4;obtain⟨v',hv',hs⟩:=ho1;exact(mZ hO c.df (.eW v) (some v') φ1 r1.H r1.nx ds w1 hH1 hl1 (by have:=x.jW;omega) (x.rR.mono hle) (.eW hv') (htr.mono hle) h4).steps (.head (ig ho hw (h2 w)) hs) hle λk _ q=>hkp k q
         | K4 g args=>
           rw[he]at h;obtain⟨d',h1,h2⟩:=I4 hE he;obtain⟨hd,hq⟩:=cb (show(hQ c.nt tm o.dst undef (λtm=>jT P pl ops K rest ⟨c.fn,c.nt,c.kd,(g,args)::c.df,c.rp,c.rc⟩ tm H nx) .bad).run O=some r from h);have hd':∀d,o.dst=some d->d<tmps.size:=λd h=>by rw[x.jA];exact hd d h
           have hx:Fx P W lo cs0 ⟨c.fn,c.nt,c.kd,(g,args)::c.df,c.rp,c.rc⟩ φ H nx (gN tmps o.dst undef) (d'::ds) w:=⟨x.hH,x.bt,x.jW,(dm ..).trans x.jA,.cons h1 x.rR,x.nS⟩;exact ch.step1 (.one (B7 ho hw (h2 w))) (jg hO hK rest _ _ _ _ _ hq _ _ _ _ _ _ hx (htr.put hd' (.flat _ rfl) λt h _=>h))
         | eW v=>
           rw[he]at h;obtain⟨v',h1,h2⟩:=B4 hE he;exact(mZ hO c.df (.eW v) (some v') φ H nx ds w x.hH x.bt x.jW x.rR (.eW h1) htr h).step1 (.one (uj ho hw (h2 w)))
         | K5=>
           rw[he]at h;have h:(Lk c λc v=>hQ c.nt tm o.dst v (λtm=>jT P pl ops K rest c tm H nx) .bad).run O=some r:=h;have h2:=I5 (ρ:=cJ tmps) he w;have none':tryRecover (cA (bE c ds) tmps (.inRegion ops (i::rest)::k)) (dj c.rc cs0)=none->(hQ c.nt tm o.dst .nilIface (λtm=>jT P pl ops K rest c tm H nx) .bad).run O=some r->
            ch P W c.kd c.fn lo cs0 c.rc φ H r (cA (bE c ds) tmps (.inRegion ops (i::rest)::k)) w:=λht hq=>
            next (.one (px ho hw h2 ht)) φ.le_refl x.hH x.bt (Nat.le_refl _) (dU.refl _ _) (.flat .nilIface rfl) (cb hq)
           obtain⟨cfn,K_,ckd,cdf,crp,crc⟩:=c;have nS:v5 φ ckd crp crc cs0:=x.nS;cases ckd with
           | false=>exact none' (v7 rfl) h
           | true=>
             have hk2:(cA (bE ⟨cfn,K_,true,cdf,crp,crc⟩ ds) tmps (.inRegion ops (i::rest)::k)).kind= .deferred:=rfl;have nS:=nS rfl;cases crp with
             | none=>exact none' (nS _ hk2) h
             | some v=>
               obtain⟨q,C,rs,v',older,hcs,hC,hv⟩:=nS;subst q hcs;obtain⟨hd,hq⟩:=cb (show(hQ K_ tm o.dst v (λtm=>jT P pl ops K rest ⟨cfn,K_,true,cdf,none,true⟩ tm H nx) .bad).run O=some r from h);have jA:tmps.size=K_:=x.jA;have hd':∀d,o.dst=some d->d<tmps.size:=λd h=>by rw[jA];exact hd d h
               have ht:tryRecover (cA (bE ⟨cfn,K_,true,cdf,some v,false⟩ ds) tmps (.inRegion ops (i::rest)::k)) (C::rs)=some (v',uw (C::rs)):=by
                rw[fC hk2];unfold uw;simp only[hC]
               have hx:Fx P W lo (C::rs) ⟨cfn,K_,true,cdf,none,true⟩ φ H nx (gN tmps o.dst v') ds w:=⟨x.hH,x.bt,x.jW,(dm ..).trans jA,x.rR,λ_ F hF=>Ca (cs:=C::rs) hF⟩;exact ch.steps (rc1:=true) (.one (py ho hw h2 ht)) φ.le_refl (λ_ _ q=>⟨q,rfl⟩) (jg hO hK rest _ _ _ _ _ hq _ _ _ _ _ _ hx (htr.put hd' hv λt h _=>h))
       . rcases dq h with⟨hfr,h⟩ | ⟨hfr,h⟩
         . rcases Ci hfr with⟨e,y,hop⟩ | ⟨t,d,y,hop⟩
           . unfold Ln at h;simp only[hop]at h;obtain⟨u,hu,h⟩:=aZ (show(af (aS P tm y) (λv=>bD (Nat.succ nx) λn=>hQ c.nt tm o.dst (ae v) (λtm=>jT P pl ops K rest c tm H n) .bad) .bad).run O=some r from h);rw[aG]at h;obtain⟨φ',v',w',hs,h1,h2,h3,h4,h5⟩:=Ch x.hH x.bt hop (λv hv=>hE y (by rw[hop];simp[Op.operands]) v hv) hu;exact next (.one (dJ ho hw hs)) h2 h3 h4 (Nat.le_succ _) h5 h1 (cb h)
           . unfold Ln at h;simp only[hop]at h;obtain⟨b,off,ha,h⟩:=Cc (show(xr P c.nt tm H nx t d o.dst (aS P tm (.tmp d)) (aS P tm y) λtm H nx=>jT P pl ops K rest c tm H nx).run O=some r from h);obtain⟨u,hu,h⟩:=aZ h;obtain⟨n,tr,el,hg,h⟩:=v8 h;obtain⟨s,hs,h⟩:=aZ h;obtain⟨hc,hq⟩:=jC h;rw[aA,aG]at hq;simp only[Bool.and_eq_true]at hc;have hn:=beq_eq hc.2.1;have hl:=beq_eq hc.2.2.1;obtain⟨hd,hq1⟩:=cb hq;obtain⟨hd2,hq2⟩:=cb hq1;have hoff:=beq_eq hc.1;clear h hq hq1;subst hoff;obtain⟨φ',v',w',y',hr,hy',hv',h1,h2,h3,h4,h5⟩:=wa x.hH x.bt hop (by rw[hop]at hE;exact hE) ha hu hg hs hn hl hc.2.2.2;have hst:step P (lone (cA (bE c ds) tmps (.inRegion ops (i::rest)::k)) (dj c.rc cs0) w)= .next (lone (cA (bE c ds) (gN tmps o.dst v') (.inRegion ops rest::k)) (dj c.rc cs0) w'):=by
              rcases hy' with rfl | ⟨rfl,rfl⟩
              . exact dJ ho hw hr
              . exact n0 ho hw hr
             have hdd:d<tmps.size:=by rw[x.jA];exact hd d rfl
             have hd2':∀e,o.dst=some e->e<tmps.size:=λe q=>by rw[x.jA];exact hd2 e q
             have htd:tmps[d]? = some (cJ tmps (.tmp d)):=by
              rw[Array.getElem?_eq_getElem hdd];show _=some (tmps.getD d undef);simp[Array.getD,hdd]
             have ht1:=(htr.mono h2).refine htd h1;refine ch.steps (.one hst) h2 (λk _ q=>h5 k q) (jg hO hK rest _ _ _ _ _ hq2 _ _ _ _ ds cs0 (x.next h2 h3 h4 (Nat.le_succ _) (dm ..)) ?_);exact ht1.put hd2' (by rw[hv'];exact .flat undef rfl) λt h _=>h
         . obtain⟨v,H',nx',he,h⟩:=mY h;obtain⟨φ',v',w',hs,h1,h2,h3,h4,h5⟩:=rS (fb:=bE c ds) (k:=k) (cs:=dj c.rc cs0) (rest:=rest) ho hw (nT x.hH x.bt hE he);have hn:nx<=nx':=by have:=n7 h2 h5;rw[x.bt,h4]at this;exact this
           exact next (.one hs) h2 h3 h4 hn h5 h1 (cb h)
theorem n_ (hO:iM P W O){K:Kt}(hK:xH P W O K k):∀(l:List (Nat×List Nat)) (tm:T Value) (H:T OB) (nx:Nat) (φ:bO) (tmps:Array Value) (w:World) (π done g7:List Nat) (κ:Nat->Nat),
 (qb P pl ops K l c tm H nx).run O=some r->Fx P W lo cs0 c φ H nx tmps ds w->dZ P φ H tm tmps ops done g7 l π κ lo nx->jc P H tm ops done π->ch P W c.kd c.fn lo cs0 c.rc φ H r (cA (bE c ds) tmps (.inRegion ops π::k)) w
 | [],tm,H,nx,φ,tmps,w,π,done,g7,κ,h,x,hD,hL=>by
   obtain⟨φ',tmps',w',π',hs,hle,hH',hlen,hk,hD',_,hz,hn⟩:=n4 (fn:=bE c ds) (k:=k) (cs:=dj c.rc cs0) π φ tmps w x.hH hD hL;have:=hD'.last hn;subst this;refine ch.steps (hs.trans (.one (step_region_end (b:=cA (bE c ds) #[] []) (a:=⟨tmps',ds⟩)))) hle (λk hk' q=>⟨hk k hk' q,rfl⟩) (hK c tm H nx r h _ _ _ _ ds cs0 (x.next hle hH' (hlen.trans x.bt) (Nat.le_refl _) hz) ?_);exact λt v hv=>(hD'.tr t v hv).imp (λ⟨p,hp,_⟩=>absurd hp List.not_mem_nil) id
 | (i,chk)::rest,tm,H,nx,φ,tmps,w,π,done,g7,κ,h,x,hD,hL=>by
   obtain⟨o,ho,hni,hrdy,hpr,hpe⟩:=gf hD.AY;obtain⟨o',ho',h⟩:=aZ (show(Ev.af ops[i]? (NZ P pl ops chk c tm H nx (qb P pl ops K rest)) .bad).run O=some r from h);rw[ho]at ho';cases ho';unfold NZ at h;obtain⟨b,hb,hy,hn0⟩:=qz h;have jA:=x.jA;have ahead:∀{φ':bO} {H':T OB} {nx':Nat} {κ':Nat->Nat} {u:Value},iX (hU ops) i o=true->(∀d,o.dst=some d->d<c.nt)->φ.le φ'->
    (∀k,k<nx->φ[k]? = some none->φ'[k]? = some none/\hp H' k=hp H k)->(∀p,p≠i->κ' p=κ p)->nx<=nx'->HR P W φ' (hp H') w->φ'.length=nx'->
    uo P φ' H' (bG tm o.dst u) ops κ' lo nx' i o->(nu o.op=true->nx<=κ' i)->(∀k ob,hp H k=some ob->hp H' k=some ob)->
    (kG o.op=true->bl (bG tm o.dst u) ops o=some true->rd P H' (bG tm o.dst u) o=some u)->
    (qb P pl ops K rest c (bG tm o.dst u) H' nx').run O=some r->ch P W c.kd c.fn lo cs0 c.rc φ H r (cA (bE c ds) tmps (.inRegion ops π::k)) w:=by
    intro φ' H' nx' κ' u hc hd hle hk hκ hn hH' hl hprom hfresh hext hself hq;have hna:i∉iK ops:=B8 λhm=>by
     have hm':(hU ops).contains i=true:=by simpa using hm
     unfold iX at hc;rw[hm',Bool.not_true,Bool.and_false]at hc;cases hc
    refine ch.steps (.refl _ _) hle (λk hk' q=>hk k (by have:=x.jW;omega) q) (n_ hO hK rest _ H' nx' φ' tmps w π (i::done) _ κ' hq (x.next hle hH' hl hn rfl)
     (hD.take ho hna hni hrdy (hpr hc) (λp hp=> ?_) (λhl=> ?_) hle hk hκ hn (λd h=>by rw[jA];exact hd d h) hprom hfresh) (hL.take hD.sa hD.ready ho hna hni hext hself))
    . split
      . exact List.mem_cons_of_mem _ hp
      . exact hp
    . rw[if_pos hl];simp
   have hself:∀{d:Tmp},o.dst=some d->d∉o.looksAt ops:=λhd=>B9 hD.sa hD.ac ho hd;have e1:∀u,bl (bG tm o.dst u) ops o=bl tm ops o:=λu=>jf (i:=i) (p:=i) λd hd=>hself hd;have e2:∀u H,rd P H (bG tm o.dst u) o=rd P H tm o:=λu H=>lT λd hd=>hself hd;have e3:∀u d,o.dst=some d->(bG tm o.dst u).get (bits d)=some u:=λu d hd=>by rw[eo,if_pos hd]
   have turn:iX (hU ops) i o=false->∃φ1 tmps1 w1 l,Steps P (lone (cA (bE c ds) tmps (.inRegion ops π::k)) (dj c.rc cs0) w) (lone (cA (bE c ds) tmps1 (.inRegion ops (i::l)::k)) (dj c.rc cs0) w1)/\
    φ.le φ1/\(∀k,k<lo->φ[k]? = some none->φ1[k]? = some none/\hp H k=hp H k)/\Fx P W lo cs0 c φ1 H nx tmps1 ds w1/\dZ P φ1 H tm tmps1 ops done g7 ((i,chk)::rest) (i::l) κ lo nx/\
    Region.wanted o (yielded ops tmps1)=b/\lA P φ1 tm (cJ tmps1) o.op.operands.toList:=by
    intro hc;obtain⟨φ1,tmps1,w1,π',hs,hle,hH1,hlen,hk,hD1,_,hz,hn⟩:=n4 (fn:=bE c ds) (k:=k) (cs:=dj c.rc cs0) π φ tmps w x.hH hD hL;obtain⟨l,rfl⟩:=hD1.head ho hc hn;exact⟨φ1,tmps1,w1,l,hs,hle,λj hj q=>⟨hk j hj q,rfl⟩,x.next hle hH1 (hlen.trans x.bt) (Nat.le_refl _) hz,hD1,
     lR hD1.tr (λp hp d hd=>jB hD1.EO hD1.own ho (je hp hd)) hb,rP hH1.gl hD1.tr λt ht=>jB hD1.EO hD1.own ho (jd ht)⟩
   have fin:∀{φ1 φ2:bO} {H':T OB} {nx':Nat} {tmps1:Array Value} {w1 w2:World} {l:List Nat} {v v':Value},iX (hU ops) i o=false->Fx P W lo cs0 c φ1 H nx tmps1 ds w1->dZ P φ1 H tm tmps1 ops done g7 ((i,chk)::rest) (i::l) κ lo nx->
    Steps P (lone (cA (bE c ds) tmps1 (.inRegion ops (i::l)::k)) (dj c.rc cs0) w1) (lone (cA (bE c ds) (gN tmps1 o.dst v') (.inRegion ops l::k)) (dj c.rc cs0) w2)->
    φ1.le φ2->HR P W φ2 (hp H') w2->φ2.length=nx'->nx<=nx'->dU φ1 φ2 (hp H) (hp H')->VR φ2 v v'->((∀d,o.dst=some d->d<c.nt)/\(ny P H' (bG tm o.dst v) ops chk (qb P pl ops K rest c (bG tm o.dst v) H' nx')).run O=some r)->
    ch P W c.kd c.fn lo cs0 c.rc φ1 H r (cA (bE c ds) tmps1 (.inRegion ops (i::l)::k)) w1:=by
    intro φ1 φ2 H' nx' tmps1 w1 w2 l v v' hc x1 hD1 hs hle hH2 hl hn hkp hv hq;obtain⟨hd,hq⟩:=hq;unfold ny at hq;rcases dq hq with⟨hchk,hq⟩ | ⟨_,hq⟩
    . obtain⟨h6,h7⟩:=hD1.finish (H':=H') ho hc hle (λj _ q=>hkp j q) hn hv (λd h=>by rw[x1.jA];exact hd d h) hchk;exact ch.steps hs hle (λk _ q=>hkp k q) (n_ hO hK rest _ _ _ _ _ _ _ _ _ _ hq (x1.next hle hH2 hl hn (dm ..)) h6 h7)
    . exact(ff hq).elim
   cases b with
   | true=>
     have h:=hy rfl;unfold OY at h;rcases dq h with⟨hrd,h⟩ | ⟨hrd,h⟩
     . obtain⟨v,hv,h⟩:=aZ h;obtain⟨hd,hq⟩:=kW h;cases hf:iX (hU ops) i o with
       | false=>
         obtain rfl:chk=[]:=(hpe hf).1 hrd;obtain⟨φ1,tmps1,w1,l,hs,hle1,hk1,x1,hD1,hw1,hE1⟩:=turn hf;obtain⟨v',hvr,hrun⟩:=nO x1.hH hE1 hv;exact ch.steps hs hle1 hk1 (fin hf x1 hD1 (.one (dJ ho hw1 hrun)) φ1.le_refl x1.hH x1.bt (Nat.le_refl _) (dU.refl _ _) hvr ⟨hd,by unfold ny;exact hq⟩)
       | true=>
       exact ahead (u:=v) (κ':=κ) hf hd φ.le_refl (λk _ q=>⟨q,rfl⟩) (λ_ _=>rfl) (Nat.le_refl _) x.hH x.bt
        (.inr (.inl ⟨(e1 v).trans hb,hrd,v,e3 v,λ_=>(e2 v H).trans hv⟩)) (λhal=>by
         rw[xG hal]at hrd;cases hrd) (λ_ _ h=>h) (λ_ _=>(e2 v H).trans hv) hq
     . rcases dq h with⟨hal,h⟩ | ⟨hal,h⟩
       . cases hf:iX (hU ops) i o with
         | false=>
           obtain⟨φ1,tmps1,w1,l,hs,hle1,hk1,x1,hD1,hw1,hE1⟩:=turn hf;refine ch.steps hs hle1 hk1 ?_;obtain⟨v,H',nx',he,h⟩:=mY h;obtain⟨φ2,v',w2,hs2,h1,h2,h3,h4,h5⟩:=rS (fb:=bE c ds) (k:=k) (cs:=dj c.rc cs0) (rest:=l) ho hw1 (nT x1.hH x1.bt hE1 he);have hn:nx<=nx':=by have:=n7 h2 h5;rw[x1.bt,h4]at this;exact this
           exact fin hf x1 hD1 (.one hs2) h2 h3 h4 hn h5 h1 (cb h)
         | true=>
         obtain⟨v,H',nx',he2,h⟩:=mY h;obtain⟨e,l,mk,hz,rfl,rfl,rfl⟩:=Ly hal he2;obtain⟨hd,hq⟩:=cb h;unfold ny at hq;have hq:=(dq hq).elim (λq=>q.2) (λq=>(ff q.2).elim);have hnone:hp H nx=none:=by
          cases hx:hp H nx with
          | none=>rfl
          | some ob=>have:=x.hH.mg nx ob hx;have:=x.bt;omega
         have bt:=x.bt;subst bt;refine ahead (u:=mk φ.length) (κ':=λp=>if p=i then φ.length else κ p) (φ':=φ++[none]) hf hd (bS φ _) (λj hj q=>⟨?_,?_⟩) (λp hp=>if_neg hp) (Nat.le_succ _) ?_ (by simp)
          (.inr (.inr ⟨(e1 _).trans hb,hal,e,l,mk,qy (λy hy=>lS tm o.dst _ y λd hd q=>by
           subst q;exact hself hd (jd hy)) hz,?_,?_,?_,?_,λd hd=> ?_⟩)) (λ_=> ?_) (λj ob hj=> ?_) (λhl=> ?_) hq
         . rw[List.getElem?_append_left hj];exact q
         . rw[aU,az _ (by omega)]
         . rw[aU];exact x.hH.Ls _
         . dsimp only;rw[if_pos rfl];exact dI φ _
         . dsimp only;rw[if_pos rfl,aU,bT]
         . dsimp only;rw[if_pos rfl];exact x.jW
         . dsimp only;rw[if_pos rfl];omega
         . dsimp only;rw[if_pos rfl];exact e3 _ d hd
         . rw[if_pos rfl];exact Nat.le_refl _
         . rw[aU]
           by_cases hjn:j=φ.length
           . subst hjn;rw[hnone]at hj;cases hj
           . rw[az _ hjn];exact hj
         . rw[Fg hal]at hl;cases hl
       . have hc:iX (hU ops) i o=false:=by unfold iX;rw[hrd,hal];rfl
         obtain⟨φ1,tmps1,w1,l,hs,hle1,hk1,x1,hD1,hw1,hE1⟩:=turn hc;refine ch.steps hs hle1 hk1 ?_;rcases dq h with⟨hct,h⟩ | ⟨hct,h⟩
         . cases he:ef P H nx tm o with
           | bad=>rw[he]at h;cases h
           | val v H' nx'=>rw[he]at h;cases h
           | K4 g args=>rw[he]at h;cases h
           | K5=>rw[he]at h;cases h
           | call g args=>
             rw[he]at h;obtain⟨args',h1,hok,h2⟩:=xE hE1 he;obtain⟨r1,h3,h4⟩:=kV (show(Q.ask (.call g args false none H nx) _).run O=some r from h);obtain⟨φ2,w2,hle,hH2,hl2,hkp,hn1,ho1⟩:=xI hO h3 x1.hH x1.bt h1 (C:=cA (bE c ds) tmps1 (.inRegion ops (i::l)::k)) rfl (dj c.rc cs0);cases hr1:r1.o with
             | ret v=>
               rw[hr1]at ho1;simp only[hr1]at h4;obtain⟨v',hv',hs2⟩:=ho1;rw[kc ho]at hs2;exact fin hc x1 hD1 (.head (ig ho hw1 (h2 w1)) hs2) hle hH2 hl2 hn1 hkp hv' (kW h4)
             | eW v=>
               rw[hr1]at ho1;simp only[hr1]at h4;obtain⟨v',hv',hs2⟩:=ho1;rcases dq h4 with⟨hdf,h4⟩ | ⟨_,h4⟩
               . have hdf:=List.isEmpty_iff.1 hdf;obtain⟨fd,hfd,h4⟩:=aZ (show(af P.funcs[c.fn]? (λ_=>Q.ret ⟨.eW v,c.rc,r1.H,r1.nx⟩) .bad).run O=some r from h4);have h4:=mX h4;subst h4;have rR:=x1.rR;rw[hdf]at rR;cases rR;exact⟨φ2,w2,_,.head (ig ho hw1 (h2 w1)) hs2,hle,hH2,hl2,λk _ q=>hkp k q,rfl,rfl,v',hv',rfl,rfl,fd,hfd⟩
               . exact(ff h4).elim
           | eW v=>
             rw[he]at h;obtain⟨v',h1,h2⟩:=B4 hE1 he;rcases dq h with⟨hdf,h4⟩ | ⟨_,h4⟩
             . have hdf:=List.isEmpty_iff.1 hdf;obtain⟨fd,hfd,h4⟩:=aZ (show(af P.funcs[c.fn]? (λ_=>Q.ret ⟨.eW v,c.rc,H,nx⟩) .bad).run O=some r from h4);have h4:=mX h4;subst h4;have rR:=x1.rR;rw[hdf]at rR;cases rR;exact⟨φ1,w1,_,.one (uj ho hw1 (h2 w1)),φ1.le_refl,x1.hH,x1.bt,λk _ q=>⟨q,rfl⟩,rfl,rfl,v',h1,rfl,rfl,fd,hfd⟩
             . exact(ff h4).elim
         . rcases dq h with⟨hfr,h⟩ | ⟨hfr,h⟩
           . simp only[Bool.and_eq_true]at hfr;obtain⟨e,y,hop⟩:∃e y,o.op= .box e y:=by
              have hb:=hfr.2;unfold Hg at hb;split at hb
              . rename_i e y hop;exact⟨e,y,hop⟩
              . cases hb
             unfold Ln at h;simp only[hop]at h;obtain⟨u,hu,h⟩:=aZ (show(af (aS P tm y) (λv=>bD (Nat.succ nx) λn=>hQ c.nt tm o.dst (ae v) (λtm=>ny P H tm ops chk (qb P pl ops K rest c tm H n)) .bad) .bad).run O=some r from h);rw[aG]at h;obtain⟨φ2,v',w2,hs2,h1,h2,h3,h4,h5⟩:=Ch x1.hH x1.bt hop (λv hv=>hE1 y (by rw[hop];simp[Op.operands]) v hv) hu;exact fin hc x1 hD1 (.one (dJ ho hw1 hs2)) h2 h3 h4 (Nat.le_succ _) h5 h1 (cb h)
           . obtain⟨v,H',nx',he,h⟩:=mY h;obtain⟨φ2,v',w2,hs2,h1,h2,h3,h4,h5⟩:=rS (fb:=bE c ds) (k:=k) (cs:=dj c.rc cs0) (rest:=l) ho hw1 (nT x1.hH x1.bt hE1 he);have hn:nx<=nx':=by have:=n7 h2 h5;rw[x1.bt,h4]at this;exact this
             exact fin hc x1 hD1 (.one hs2) h2 h3 h4 hn h5 h1 (cb h)
   | false=>
     obtain⟨hd,hq⟩:=cb (hn0 rfl);cases hc:iX (hU ops) i o with
     | true=>
       unfold ny at hq;rcases dq hq with⟨hchk,hq⟩ | ⟨_,hq⟩
       . refine ahead (u:=undef) (κ':=λp=>if p=i then nx else κ p) hc hd φ.le_refl (λk _ q=>⟨q,rfl⟩) (λp hp=>if_neg hp) (Nat.le_refl _) x.hH x.bt
          (.inl ⟨(e1 _).trans hb,e3 _⟩) (λ_=> ?_) (λ_ _ h=>h) (λ_ hw=> ?_) hq
         . rw[if_pos rfl];exact Nat.le_refl _
         . rw[e1,hb]at hw;cases hw
       . exact(ff hq).elim
     | false=>
       obtain⟨φ1,tmps1,w1,l,hs,hle1,hk1,x1,hD1,hw1,_⟩:=turn hc;exact ch.steps hs hle1 hk1 (fin hc x1 hD1 (.one (n2 ho hw1)) φ1.le_refl x1.hH x1.bt (Nat.le_refl _) (dU.refl _ _) (.flat undef rfl) (cb (hn0 rfl)))
end
end
end Go.Ev
