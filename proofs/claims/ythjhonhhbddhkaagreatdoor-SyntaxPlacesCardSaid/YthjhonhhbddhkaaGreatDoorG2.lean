/- Texts of this claim, side by side. -/
import Derived.Test.YthjhonhhbddhkaaGreatDoorG1
import Derived.Scope
import Derived.Recover
namespace Go.Ev
open Go.RowKit (Below)
noncomputable section
set_option maxRecDepth 100000
set_option linter.unusedVariables false
set_option linter.unusedSimpArgs false
section
variable {P:Program}{W w:World}{φ:bZ}{H:T OB}{tm:T Value}{ρ:Operand->Value}{g:Nat->Option OB}
theorem HR.alias (hH:HR P W φ g w){e:fp}{ob:OB}(hr:e.r<w.heap.size)(hno:∀k ob x,g k=some ob->live ob=true->φ[k]? = some (some x)->x.r≠e.r)
 (h0:e.fz=none) (hfz:∀(k:Nat) (x:fp) (c:Array Value),φ[k]? = some (some x)->x.fz=some c->e.r≠x.r) (hob:ui P W φ ob e w):
 HR P W (φ++[some e]) (lQ g φ.length (some ob)) w where
 below:=hH.below
 gl:=hH.Fy (cc φ _)
 mz:=λk o h=>by
  simp only[List.length_append,List.length_singleton]
  by_cases hk:k=φ.length
  . omega
  . rw[aX g hk]at h;have:=hH.mz k o h;omega
 lI:=λk x h=>by
  rcases bA h with h | ⟨_,h⟩
  . exact hH.lI k x h
  . cases h;exact hr
 inj:=λk k' o1 o2 x x' h h' hg hg' hl hl' hrr=>by
  rcases bA h with h0 | ⟨hk,hx⟩
  . have l0:=(List.getElem?_eq_some_iff.1 h0).1;rw[aX g (by omega)]at hg;rcases bA h' with h1 | ⟨hk',hx'⟩
    . have l1:=(List.getElem?_eq_some_iff.1 h1).1;rw[aX g (by omega)]at hg';exact hH.inj k k' o1 o2 x x' h0 h1 hg hg' hl hl' hrr
    . cases hx';exact absurd hrr (hno k o1 x hg hl h0)
  . cases hx;rcases bA h' with h1 | ⟨hk',hx'⟩
    . have l1:=(List.getElem?_eq_some_iff.1 h1).1;rw[aX g (by omega)]at hg';exact absurd hrr.symm (hno k' o2 x' hg' hl' h1)
    . exact hk.trans hk'.symm
 obj:=λk oa x hg h=>by
  rcases bA h with h0 | ⟨hk,hx⟩
  . have l0:=(List.getElem?_eq_some_iff.1 h0).1;rw[aX g (by omega)]at hg;exact(hH.obj k oa x hg h0).mono (cc φ _)
  . cases hx;subst hk;rw[cf]at hg;cases hg;exact hob.mono (cc φ _)
 j3:=λk x c h hf=>by
  rcases bA h with h1 | ⟨_,hx⟩
  . exact hH.j3 k x c h1 hf
  . cases hx;rw[h0]at hf;cases hf
 oo:=λk k' x x' c o h hf h' hg hl=>by
  rcases bA h with h1 | ⟨_,hx⟩
  . rcases bA h' with h2 | ⟨_,hx'⟩
    . have l2:=(List.getElem?_eq_some_iff.1 h2).1;rw[aX g (by omega)]at hg;exact hH.oo k k' x x' c o h1 hf h2 hg hl
    . cases hx';exact hfz k x c h1 hf
  . cases hx;rw[h0]at hf;cases hf
theorem HR.JY (hH:HR P W φ g w){k n n':Nat}{t t':T Value}{el:TypeId}{e:fp}(hg:g k=some (.cells n t el))(hk:φ[k]? = some (some e))(hn:n'<=n)
 (ht:∀i,i<n'->t'.get (bits i)=t.get (bits i)):HR P W φ (lQ g k (some (.cells n' t' el))) w:=by
 obtain⟨h1,⟨c,el',h2,h3,h4,h5⟩,h6⟩:=hH.obj k _ e hg hk;exact hH.put hg rfl hk hH.below rfl (λ_ _=>rfl) ⟨h1,⟨c,el',h2,h3,by omega,λi hi v hv=>h5 i (by omega) v (by rw[<- ht i hi];exact hv)⟩,h6⟩
section ops
variable {o:Oper}{v:Value}{H':T OB}{nx nx':Nat}
theorem gT {w:World}{r off:Nat}{c:Array Value}{el:TypeId}{fz:Nat×Nat}(hr:w.heap[r]? = some (.cells c el fz)){s:Nat}:
 ∀(j:Nat) (v:Value),((c.toList.drop off).take s)[j]? = some v->w.cell? ((⟨r,off,none⟩:Addr).add j)=some v:=λj v hv=>by
 rw[cK,cell_of_row w r (off+j) c el fz hr];rw[List.getElem?_take]at hv;split at hv
 . rw[List.getElem?_drop]at hv;simpa using hv
 . cases hv
theorem pW (hH:HR P W φ (hp H) w){s n c:Nat}{base:Option Addr}{x':Value}{xs:List Value}(hv:VR φ (.slice base n c) x')(h:cellsOf H s base n=some xs):
 ∃xs',LR φ xs xs'/\xs'.length=n*s/\
  ((base=none/\n=0/\x'= .slice none n c)\/∃a c',x'= .slice (some a) n c'/\∀j v,xs'[j]? = some v->w.cell? (a.add j)=some v):=by
 cases base with
 | none=>
   obtain⟨h1,h2⟩:=aS (show(bif Nat.beq n 0 then some []else none)=some xs from h);cases h2;have h1:=beq_eq h1;subst h1;have:=hv.aB rfl;exact⟨[],.nil,by simp,.inl ⟨rfl,rfl,this⟩⟩
 | some a=>
   obtain⟨b,off,sp⟩:=a;obtain⟨e,c',hb,rfl,rfl,_⟩:=hv.dS;have h:pO (H.get (bits b)) (λm tr=>bif Nat.ble (off+n*s) m then mZ tr (n*s) off else none) none=some xs:=h;obtain⟨m,tr,hg,h⟩:=oh h;obtain⟨hle,hl⟩:=aS h;obtain⟨cs,el',fz,hr,hn,hc⟩:=hH.row hg hb;have hle:=cg hle;obtain⟨h1,h2⟩:=kf hc hl hle hn;exact⟨_,h1,by rw[<- h1.len,h2],.inr ⟨_,c',rfl,gT hr⟩⟩
theorem j4 {w:World}{x':Value}{n s:Nat}{xs':List Value}(hl:xs'.length=n*s)
 (h:(n=0/\∃c,x'= .slice none n c)\/∃a c',x'= .slice (some a) n c'/\∀j v,xs'[j]? = some v->w.cell? (a.add j)=some v):
 (Builtin.firstCells s n x').run P w= .ok xs'.toArray w/\(Builtin.lenOf x').run P w= .ok n w:=by
 rcases h with⟨rfl,c,rfl⟩ | ⟨a,c',rfl,h⟩
 . have:xs'=[]:=by
    cases xs' with
    | nil=>rfl
    | cons _ _=>simp at hl
   subst this;exact⟨rfl,rfl⟩
 . exact⟨run_firstCells_some w s n a n c' xs' hl h,rfl⟩
theorem pX {es:List Value}{s:Nat}(h:∀x∈es,x.cells.toList.length=s):(es.flatMap λu=>u.cells.toList).length=es.length*s:=by
 induction es with
 | nil=>simp
 | cons x es ih=>
   rw[List.flatMap_cons,List.length_append,h x (by simp),ih λy hy=>h y (by simp[hy]),List.length_cons,Nat.succ_mul];omega
theorem uq {es:List Value}{s:Nat}(h:∀x∈es,x.cells.toList.length=s):∀(m:Nat) (v:Value),(es.flatMap λu=>u.cells.toList)[m]? = some v->∃i j x,m=i*s+j/\es[i]? = some x/\x.cells.toList[j]? = some v:=by
 induction es with
 | nil=>intro m v hv;simp at hv
 | cons x es ih=>
   intro m v hv;rw[List.flatMap_cons]at hv;have hx:=h x (by simp)
   by_cases hm:m<x.cells.toList.length
   . rw[List.getElem?_append_left hm]at hv;exact⟨0,m,x,by omega,rfl,hv⟩
   . rw[List.getElem?_append_right (by omega),hx]at hv;obtain⟨i,j,y,h1,h2,h3⟩:=ih (λy hy=>h y (by simp[hy])) _ v hv;refine⟨i+1,j,y,?_,by simpa using h2,h3⟩;rw[hx]at hm;rw[Nat.succ_mul];omega
theorem wu (hH:HR P W φ (hp H) w){s xl:Nat}{xv x':Value}{xs:List Value}(hv:VR φ xv x')(h:kc H s xv=some (xl,xs)):
 ∃xs',LR φ xs xs'/\xs'.length=xl*s/\((xl=0/\∃c,x'= .slice none xl c)\/∃a c',x'= .slice (some a) xl c'/\∀j v,xs'[j]? = some v->w.cell? (a.add j)=some v):=by
 unfold kc at h;split at h
 . rename_i xb n xc;obtain⟨l,hl,h1⟩:=aD h;cases h1;obtain⟨xs',h2,h3,h4⟩:=pW hH hv hl;refine⟨xs',h2,h3,?_⟩;rcases h4 with⟨_,h4,h5⟩ | h4
   . exact .inl ⟨h4,_,h5⟩
   . exact .inr h4
 . obtain⟨s',es,rfl,h1⟩:=gP h;obtain⟨h2,h3⟩:=aS h1;have h2:=beq_eq h2;subst h2;cases h3;clear h h1;rcases hv.gg with⟨rfl,hy | ⟨a,c',hy⟩⟩ | ⟨k,o',c',e,c,h3,h4,h5,h6,h7,h8,hy⟩
   . exact⟨[],.nil,by simp,.inl ⟨rfl,_,hy⟩⟩
   . exact⟨[],.nil,by simp,.inr ⟨_,c',hy,λj v hj=>by simp at hj⟩⟩
   . obtain⟨el,fz,hrow⟩:=hH.j3 k e c h3 h4;have hlen:=pX h5
     by_cases hne:es=[]
     . subst hne;exact⟨[],.nil,by simp,.inr ⟨_,c',hy,λj v hj=>by simp at hj⟩⟩
     . have h6:=h6 hne;refine⟨(c.toList.drop o').take (es.length*s'),⟨?_,λm a b ha hb=> ?_⟩,?_,.inr ⟨_,c',hy,gT hrow⟩⟩
       . rw[hlen];simp only[List.length_take,List.length_drop,Array.length_toList];omega
       . obtain⟨i,j,x,rfl,hi,hj⟩:=uq h5 m a ha;rw[List.getElem?_take]at hb;split at hb
         . rw[List.getElem?_drop,Array.getElem?_toList]at hb;exact h8 i j x a b hi hj (by rw[Nat.add_assoc];exact hb)
         . cases hb
       . simp only[List.length_take,List.length_drop,Array.length_toList];omega
theorem ur {e:TypeId}{s bl:Nat}(h:bB P e s bl=true)(hs:a6 P e=some s):
 ∃i z',P.info? e=some i/\i.zero=some z'/\i.size=s/\z'.cells.size=s/\0<s/\bl<=1048576/\i.bytes<=65536:=by
 unfold bB at h;split at h
 . rename_i i z hi hz;simp only[Bool.and_eq_true]at h;obtain⟨i',z',hi',hz',hl,_⟩:=eY hz;rw[hi]at hi';cases hi';have h1:=beq_eq h.1.1.1;refine⟨i,z',hi,hz',?_,?_,dJ h.1.1.2,cg h.1.2,cg h.2⟩
   . unfold a6 at hs;rw[hi]at hs;cases hs;rfl
   . rw[<- h1,<- hl];simp
 . cases h
theorem wv {d:TypeDesc}(h:∀k,d ≠ .int k):(match d with | .int _=>true | _=>false)=false:=by
 cases d<;>first | rfl | exact absurd rfl (h _)
theorem j5 (t u ty e:TypeId)(i:TypeInfo){d:TypeDesc}(ht:P.underlying t=some (.slice e))(hud:P.underlying u=some d)(hd:∀k,d ≠ .int k)(hi:P.info? e=some i)(b:Addr)(sLen sCap:Nat){x:Value}{n:Nat}{xs:List Value}
 (hn:(Builtin.lenOf x).run P w= .ok n w) (hf:(Builtin.firstCells i.size n x).run P w= .ok xs.toArray w) (hle:sLen+n<=sCap) {w':World}
 (hst:(storeCells (b.add (sLen*i.size)) xs).run P w= .ok () w'):
 (Builtin.append_ #[t,u] ty #[.slice (some b) sLen sCap,x]).run P w= .ok (.slice (some b) (sLen+n) sCap) w':=by
 have hm:=wv hd;simp[Builtin.append_,run_underlying ht,run_underlying hud,hm,sizeOf,typeInfo,hi,hn,hle,hf,hst]
theorem m5 (t u ty e:TypeId)(i:TypeInfo){d:TypeDesc}(ht:P.underlying t=some (.slice e))(hud:P.underlying u=some d)(hd:∀k,d ≠ .int k)(hi:P.info? e=some i){x:Value}{xs:List Value}
 (hn:(Builtin.lenOf x).run P w= .ok 0 w) (hf:(Builtin.firstCells i.size 0 x).run P w= .ok xs.toArray w):
 (Builtin.append_ #[t,u] ty #[.slice none 0 0,x]).run P w= .ok (.slice none 0 0) w:=by
 have hm:=wv hd;simp[Builtin.append_,run_underlying ht,run_underlying hud,hm,sizeOf,typeInfo,hi,hn,hf]
theorem iP (t u ty e:TypeId)(i:TypeInfo)(z:Value){d:TypeDesc}(ht:P.underlying t=some (.slice e))(hud:P.underlying u=some d)(hd:∀k,d ≠ .int k)(hi:P.info? e=some i)(hz:i.zero=some z)
 (base:Option Addr) (sLen sCap:Nat) (olds:List Value) (holds:(Builtin.firstCells i.size sLen (.slice base sLen sCap)).run P w.drew= .ok olds.toArray w.drew) {x:Value} (n:Nat) (news:List Value)
 (hn:(Builtin.lenOf x).run P w= .ok n w) (hf:(Builtin.firstCells i.size n x).run P w.drew= .ok news.toArray w.drew)
 (hg:sCap<sLen+n) (h63:((sLen+n:Nat):Int)<=9223372036854775807) (hfit:Builtin.nextslicecap (sLen+n) sCap*i.bytes<=281474976710656):
 (Builtin.append_ #[t,u] ty #[.slice base sLen sCap,x]).run P w=
  .ok (.slice (some ⟨w.heap.size,0,none⟩) (sLen+n) (grownCap w (sLen+n) sCap e))
   (w.drew.alloc (.cells ((olds++news).toArray++Builtin.zeroCells z.cells (grownCap w (sLen+n) sCap e-(sLen+n))) e)):=by
 have hm:=wv hd;have hn':¬(sLen+n<=sCap):=by omega
 have h63':¬(9223372036854775807<((sLen:Int)+(n:Int))):=by omega
 have h48':¬(281474976710656<Builtin.nextslicecap (sLen+n) sCap*i.bytes):=by omega
 simp[Builtin.append_,run_underlying ht,run_underlying hud,hm,sizeOf,typeInfo,zeroValue,hi,hz,hn,hn',h63',h48',Question.forced,hf,holds,newRow,grownCap];congr 2;apply Array.ext';simp[List.append_assoc]
theorem gi {H:T OB}{nx:Nat}{e:TypeId}{m:Nat}{l:List Value}:gd H nx e m l= .val (.slice (some ⟨nx,0,none⟩) m dP) (set H (bits nx) (some (cu l e))) (nx+1):=by
 unfold gd;rw[dD,a5]
theorem fh {c:Call}(hc:c.callee= .builtin .append)(ho:o.op= .call c){r:Result Value}(h:(Builtin.append_ c.argTypes o.type (c.args.map ρ)).run P w=r):
 (execOp ρ o).run P w=r.andThen λv w'=> .ok (.value v) w':=by
 subst h;simp only[execOp,ho,resolve,hc,Sem.run_bind,Sem.run_pure,Result.andThen_ok,invoke,builtin]
theorem oz (z:Array Value)(n:Nat):(Builtin.zeroCells z n).size=n*z.size:=by simp[Builtin.zeroCells]
theorem grownCap_ge (w:World)(bl old:Nat)(e:TypeId):bl<=grownCap w bl old e:=by
 unfold grownCap;simp only[Question.cut];omega
theorem xR (bM:φ.length=nx){e:TypeId}{z':Value}{s m cap:Nat}{l l':List Value}{r:Result Next}(H₁:T OB)(hH₁:HR P W φ (hp H₁) w)(hk:dW φ φ (hp H) (hp H₁))
 (hs:a6 P e=some s) (hz:z'.cells.size=s) (hl:LR φ l l') (hlen:l'.length=m*s) (hm:m<=cap)
 (hr:r= .ok (.value (.slice (some ⟨w.heap.size,0,none⟩) m cap)) (w.drew.alloc (.cells (l'.toArray++Builtin.zeroCells z'.cells (cap-m)) e))):
 gB P W φ H w r (.slice (some ⟨nx,0,none⟩) m dP) (set H₁ (bits nx) (some (cu l e))) (nx+1):=by
 subst bM;refine⟨_,_,_,_,hr,.inl rfl,.slice (gS φ w.heap.size (l'.toArray++Builtin.zeroCells z'.cells (cap-m)).size s) (.inr ⟨rfl,hm,?_⟩),jh _ _ _ _,?_,gR _ _ _ _,?_⟩
 . simp only[Array.size_append,List.size_toArray,oz,hz,hlen];rw[<- Nat.add_mul];rw[show m+(cap-m)=cap from by omega];omega
 . rw[bu];exact hH₁.drew.fresh _ (rE (w:=w.drew) hl e e _ (λz h=>by rw[hs]at h;cases h;rfl) hH₁.below.drew)
 . rw[bu];exact hk.trans (fK _ _ _ _ _ _)
theorem Ik (hH:HR P W φ (hp H) w)(bM:φ.length=nx){c:Call}(hc:c.callee= .builtin .append)(ho:o.op= .call c){t u e:TypeId}{s sl sc xl:Nat}{base:Option Addr}{sv xv:Value}{xs xs':List Value}
 (hty:c.argTypes=#[t,u]) (hargs:c.args.map ρ=#[sv,xv]) (hsv:VR φ (.slice base sl sc) sv) (hu:P.underlying t=some (.slice e)) (hux:∃d,P.underlying u=some d/\∀k,d ≠ .int k) (hs:a6 P e=some s)
 (hsm:bB P e s (sl+xl)=true) (hx1:LR φ xs xs') (hx2:xs'.length=xl*s) (hlx:∀w',(Builtin.lenOf xv).run P w'= .ok xl w') (hfx:(Builtin.firstCells s xl xv).run P w= .ok xs'.toArray w)
 (hfxd:(Builtin.firstCells s xl xv).run P w.drew= .ok xs'.toArray w.drew) (h:pR P H nx e s base sl sc xl xs= .val v H' nx'):gB P W φ H w ((execOp ρ o).run P w) v H' nx':=by
 obtain⟨i,z',hi,hz,his,hzs,h0,hneed,hby⟩:=ur hsm hs;obtain⟨dd,hud,hdd⟩:=hux;rw[<- his]at hfx hfxd;have h48:∀old,old<sl+xl->Builtin.nextslicecap (sl+xl) old*i.bytes<=281474976710656:=λold hold=>
  growslice_fits hold (Nat.le_trans (Nat.mul_le_mul hneed hby) (by decide))
 cases base with
 | none=>
   have hsv:=hsv.aB rfl;subst hsv;obtain⟨hb,h'⟩:=cD (show(bif Nat.beq sl 0&&Nat.beq sc 0 then(bif Nat.beq xl 0 then dI.val (.slice none 0 0) H nx else gd H nx e xl xs)else .bad)= .val v H' nx' from h);simp only[Bool.and_eq_true]at hb;have hb1:=beq_eq hb.1;have hb2:=beq_eq hb.2;subst hb1 hb2;cases hx0:Nat.beq xl 0 with
   | true=>
     rw[hx0]at h';have h':dI.val (.slice none 0 0) H nx= .val v H' nx':=h';cases h';have hx0:=beq_eq hx0;subst hx0;refine⟨φ,.slice none 0 0,w,.value (.slice none 0 0),?_,.inl rfl,.flat _ rfl,φ.le_refl,hH,bM,dW.refl _ _⟩;rw[fh hc ho (r:= .ok (.slice none 0 0) w) ?_]
     . rfl
     . rw[hty,hargs];exact m5 t u o.type e i hu hud hdd hi (hlx w) hfx
   | false=>
     rw[hx0]at h';have h':gd H nx e xl xs= .val v H' nx':=h';rw[gi]at h';cases h';have hx0:0<xl:=by
      rcases Nat.eq_zero_or_pos xl with q | q
      . subst q;cases hx0
      . exact q
     refine xR bM H hH (dW.refl _ _) hs hzs hx1 hx2 (grownCap_ge w xl 0 e) ?_;rw[fh hc ho rfl,hty,hargs];have h5:=iP (P:=P) (w:=w) t u o.type e i z' hu hud hdd hi hz none 0 0 [] rfl xl xs' (hlx w) hfxd (by omega) (by omega) (h48 0 (by omega));rw[Nat.zero_add,List.nil_append]at h5;rw[h5];rfl
 | some a0=>
   obtain⟨b,off,sp⟩:=a0;obtain⟨en,c0,hb,rfl,rfl,hcap⟩:=hsv.dS;have h:dh (H.get (bits b)) (λn tr el=>bif Nat.beq sc dP then L3 P H nx e s b off sl xl n tr xs
    else bif Nat.ble (sl+xl) sc then A9 H nx s b off sl sc xl n tr el xs else mw H nx e s off sl xl n tr xs) .bad= .val v H' nx':=h
   obtain⟨n,tr,el,hg,h⟩:=oy h;obtain⟨cr,elr,hrow,hrsz,hrn,oA⟩:=hH.cells hg hb;have grow:∀(H₁:T OB) (old:List Value),HR P W φ (hp H₁) w->dW φ φ (hp H) (hp H₁)->mZ tr (sl*s) off=some old->off+sl*s<=n->c0<sl+xl->0<xl->
    gB P W φ H w ((execOp ρ o).run P w) (.slice (some ⟨nx,0,none⟩) (sl+xl) dP) (set H₁ (bits nx) (some (cu (old++xs) e))) (nx+1):=by
    intro H₁ old hH₁ hk hold hle hlt hx0;obtain⟨ho1,ho2⟩:=kf oA hold hle (by omega);have holds:=run_firstCells_some (P:=P) w.drew i.size sl ⟨en.r,off,none⟩ sl c0 _ (by rw[<- ho1.len,ho2,his]) (gT (w:=w.drew) (s:=sl*s) hrow);refine xR bM H₁ hH₁ hk hs hzs (ho1.append hx1) ?_ (grownCap_ge w (sl+xl) c0 e) ?_
    . rw[List.length_append,<- ho1.len,ho2,hx2,Nat.add_mul]
    . rw[fh hc ho rfl,hty,hargs,iP (P:=P) (w:=w) t u o.type e i z' hu hud hdd hi hz (some ⟨en.r,off,none⟩) sl c0 _ holds xl xs' (hlx w) hfxd hlt (by omega) (h48 c0 hlt)];rfl
   cases hsc:Nat.beq sc dP with
   | true=>
     rw[hsc]at h;have h:L3 P H nx e s b off sl xl n tr xs= .val v H' nx':=h;have hsc:=beq_eq hsc;rcases hcap with⟨q,_⟩ | ⟨_,hcl,hcb⟩
     . exact absurd hsc q
     unfold L3 at h;obtain⟨hq,h⟩:=cD h;obtain⟨old,hold,h⟩:=bP h;rw[aY,gi]at h;cases h;simp only[Bool.and_eq_true]at hq;have hoff:=beq_eq hq.1.1.1;have hsn:=cg hq.1.1.2;subst hoff;have hes:en.es=s:=by
      have h15:=hq.1.2;unfold pP at h15;rw[hg]at h15;have h15:aa (a6 P el) (λz=>Nat.beq z s) false=true:=h15;cases hz:a6 P el with
      | none=>rw[hz]at h15;cases h15
      | some z=>
        rw[hz]at h15;have h15:Nat.beq z s=true:=h15;have:=beq_eq h15;subst this;exact hH.es (show hp H b=some (.cells n tr el)from hg) hb z hz
     have hkill:HR P W φ (hp (set H (bits b) (some .dead))) w:=by rw[bu];exact hH.kill (show hp H b=some (.cells n tr el)from hg) hb
     have hkeep:dW φ φ (hp H) (hp (set H (bits b) (some .dead))):=λk hk=>⟨hk,by
      rw[bu,aX];intro q;subst q;rw[hb]at hk;cases hk⟩
     by_cases hfit:sl+xl<=c0
     . -- in place: the new block of ours over the old row
       obtain⟨ho1,ho2⟩:=kf oA hold (by omega) (by omega);have hle1:(sl+xl)*s<=en.sz:=by
        have:(sl+xl)*s<=c0*s:=Nat.mul_le_mul_right s hfit;rw[hes]at hcb;omega
       rw[Nat.add_mul]at hle1;obtain⟨hab,_,_⟩:=hH.obj b _ en (show hp H b=some (.cells n tr el)from hg) hb;have hAl:=hkill.alias (e:=en) (ob:= .cells en.sz (dB old 0 .leaf) e) (hH.lI b en hb) (λk ob x hgk hlk hφk hr=>by
        rw[bu]at hgk
        by_cases hkb:k=b
        . subst hkb;rw[cf]at hgk;cases hgk;cases hlk
        . rw[aX _ hkb]at hgk;exact hkb (hH.inj k b _ _ x en hφk hb hgk (show hp H b=some (.cells n tr el)from hg) hlk rfl hr))
        (by
         cases hz:en.fz with
         | none=>rfl
         | some cz=>exact absurd rfl (hH.oo b b en en cz _ hb hz hb (show hp H b=some (.cells n tr el)from hg) rfl))
        (λk x cz hx hz=>hH.oo k b x en cz _ hx hz hb (show hp H b=some (.cells n tr el)from hg) rfl) ⟨hab,⟨cr,elr,hrow,hrsz,Nat.le_refl _,λj hj v hv=>by
        rw[cS]at hv;split at hv
        . rename_i hjl;have hj2:j<sl*s:=by omega
          have h3:=(oc tr (sl*s) 0 old hold).2 j hj2;rw[Nat.zero_add]at h3;rw[Nat.sub_zero]at hv;rw[hv]at h3;exact oA j (by omega) v h3
        . rw[gO]at hv;cases hv⟩,λz hz=>by rw[hs]at hz;cases hz;exact hes⟩
       obtain⟨w',hrun,hH2⟩:=eE (φ:=φ++[some en]) (b:=φ.length) (n:=en.sz) (el:=e) (e:=en) (dK φ _) xs xs' (sl*s) 0 _ w _ hAl (cf _ _ _) (hx1.mono (cc φ _)) hq.2 (by rw[hx1.len,hx2];omega);rw[kR,Nat.add_zero]at hH2;have hH3:=hH2.JY (k:=φ.length) (n':=(old++xs).length) (t':=dB (old++xs) 0 .leaf) (cf _ _ _) (dK φ _) (by rw[List.length_append,ho2,hx1.len,hx2];omega) (λj hj=>by
        rw[cS,cS,if_pos (by omega),Nat.sub_zero];rw[List.length_append,ho2]at hj
        by_cases hjs:j<sl*s
        . rw[if_neg (by omega),List.getElem?_append_left (by omega),cS,if_pos (by omega),Nat.sub_zero]
        . rw[if_pos (by omega),List.getElem?_append_right (by omega),ho2])
       rw[kR]at hH3;subst bM;refine⟨φ++[some en],.slice (some ⟨en.r,0,none⟩) (sl+xl) c0,w',.value (.slice (some ⟨en.r,0,none⟩) (sl+xl) c0),?_,.inl rfl,.slice (dK φ _) (.inr ⟨rfl,hfit,hcb⟩),cc φ _,?_,by simp,?_⟩
       . rw[fh hc ho (r:= .ok (.slice (some ⟨en.r,0,none⟩) (sl+xl) c0) w') ?_]
         . rfl
         . rw[hty,hargs];refine j5 t u o.type e i hu hud hdd hi ⟨en.r,0,none⟩ sl c0 (hlx w) hfx hfit ?_;rw[cK,his,Nat.zero_add];exact hrun
       . rw[bu];exact hH3
       . rw[bu];refine hkeep.trans (λk hk=>⟨?_,aX _ ?_ _⟩)
         . rw[List.getElem?_append_left (List.getElem?_eq_some_iff.1 hk).1];exact hk
         . have:=(List.getElem?_eq_some_iff.1 hk).1;omega
     . exact grow _ old hkill hkeep hold (by omega) (by omega) (by omega)
   | false=>
     rw[hsc]at h;have hne:sc≠dP:=λq=>by rw[q]at hsc;exact absurd (Nat.beq_refl dP) (by rw[hsc];decide)
     have hc0:c0=sc:=by
      rcases hcap with⟨_,q⟩ | ⟨q,_⟩
      . exact q
      . exact absurd q hne
     subst hc0;have h:(bif Nat.ble (sl+xl) c0 then A9 H nx s b off sl c0 xl n tr el xs else mw H nx e s off sl xl n tr xs)= .val v H' nx':=h;cases hle:Nat.ble (sl+xl) c0 with
     | true=>
       rw[hle]at h;have h:A9 H nx s b off sl c0 xl n tr el xs= .val v H' nx':=h;have hle:=cg hle;unfold A9 at h;obtain⟨hq,h⟩:=cD h;rw[cC,aY,a5]at h;cases h;simp only[Bool.and_eq_true]at hq;have hin:=cg hq.1;have hmul:(sl+xl)*s<=c0*s:=Nat.mul_le_mul_right s hle;rw[Nat.add_mul]at hmul;obtain⟨w',hrun,hH2⟩:=eE hb xs xs' (off+sl*s) 0 (hp H) w tr hH hg hx1 hq.2 (by rw[hx1.len,hx2];omega);refine⟨φ,.slice (some ⟨en.r,off,none⟩) (sl+xl) c0,w',.value (.slice (some ⟨en.r,off,none⟩) (sl+xl) c0),?_,.inl rfl,.slice hb (.inl ⟨hne,rfl⟩),φ.le_refl,?_,bM,?_⟩
       . rw[fh hc ho (r:= .ok (.slice (some ⟨en.r,off,none⟩) (sl+xl) c0) w') ?_]
         . rfl
         . rw[hty,hargs];refine j5 t u o.type e i hu hud hdd hi ⟨en.r,off,none⟩ sl c0 (hlx w) hfx hle ?_;rw[cK,his];exact hrun
       . rw[bu];exact hH2
       . intro k hk;refine⟨hk,?_⟩;rw[bu,aX];intro q;subst q;rw[hb]at hk;cases hk
     | false=>
       rw[hle]at h;have h:mw H nx e s off sl xl n tr xs= .val v H' nx':=h;have hlt:c0<sl+xl:=by
        rcases Nat.lt_or_ge c0 (sl+xl)with q | q
        . exact q
        . exact absurd (Nat.ble_eq_true_of_le q) (by rw[hle];decide)
       unfold mw at h;obtain⟨hq,h⟩:=cD h;obtain⟨old,hold,h⟩:=bP h;rw[gi]at h;cases h;simp only[Bool.and_eq_true]at hq;exact grow H old hH (dW.refl _ _) hold (cg hq.1) hlt (dJ hq.2)
theorem Bl (hH:HR P W φ (hp H) w)(bM:φ.length=nx){c:Call}(hc:c.callee= .builtin .append)(ho:o.op= .call c)(hE:lJ P φ tm ρ c.args.toList)
 (h:bt P H nx c.argTypes.toList (m4 P tm c.args.toList)= .val v H' nx'):gB P W φ H w ((execOp ρ o).run P w) v H' nx':=by
 have two:∀{a b:Value},m4 P tm c.args.toList=some [a,b]->∃sv xv,VR φ a sv/\VR φ b xv/\c.args.map ρ=#[sv,xv]:=by
  intro a b hevs;have hLRa:=lS _ _ hE hevs;obtain⟨sv,m1,hm1,hsv,hrest⟩:=hLRa.inv;obtain⟨xv,m2,hm2,hxv,hrest⟩:=hrest.inv;have hm3:=hrest.jI;subst hm3;subst hm2;exact⟨sv,xv,hsv,hxv,Array.ext' (by rw[Array.toList_map];exact hm1)⟩
 have tys:∀{t u:TypeId},c.argTypes.toList=[t,u]->c.argTypes=#[t,u]:=λ{t u} q=>by
  have:c.argTypes.toList.toArray=#[t,u]:=by rw[q]
  simpa using this
 unfold bt at h;split at h
 . rename_i base sl sc b t u hevs htys;obtain⟨sv,xv,hsv,hxv,hargs⟩:=two hevs;have hxv:=hxv.aB rfl;subst hxv;obtain⟨hst,h⟩:=cD h;obtain⟨e,s,hu,hs,h⟩:=gh h;obtain⟨hsm,h⟩:=cD h;simp only[Bool.and_eq_true]at hsm;have hs1:=beq_eq hsm.2;subst hs1;have hud:∃d,P.underlying u=some d/\∀k,d ≠ .int k:=by
    unfold B4 at hst;split at hst
    . rename_i q;exact⟨_,q,λk=>by simp⟩
    . cases hst
   have hfc:∀w',(Builtin.firstCells 1 b.size (.string b)).run P w'= .ok (b.data.toList.map λx=>Value.int .u8 (.ofNat x.toNat)).toArray w':=λw'=>by
    simp[Builtin.firstCells];exact Array.ext' (by simp)
   refine Ik hH bM hc ho (xv:= .string b) (xs:=b.data.toList.map λx=> .int .u8 (.ofNat x.toNat)) (tys htys) hargs hsv hu hud hs hsm.1 (LR.of_flat (λx hx=> ?_)) ?_ (λw'=>rfl) (hfc w) (hfc w.drew) h
   . obtain⟨y,_,rfl⟩:=List.mem_map.1 hx;rfl
   . simp
 . unfold kI at h;split at h
   case h_2=>cases h
   rename_i base sl sc xv0 t u hevs htys;obtain⟨sv,xv,hsv,hxv,hargs⟩:=two hevs;cases htu:Nat.beq t u with
   | false=>rw[htu]at h;cases h
   | true=>
     rw[htu]at h;have htu:=beq_eq htu;subst htu;have h:cV P t (λe s=>aa (kc H s xv0) (λp=>bif bB P e s (sl+p.1)then pR P H nx e s base sl sc p.1 p.2 else .bad) .bad) .bad= .val v H' nx':=h;obtain⟨e,s,hu,hs,h⟩:=gh h;obtain⟨⟨xl,xs⟩,hxs,h⟩:=bP h;obtain⟨hsm,h⟩:=cD h;obtain⟨xs',hx1,hx2,hx3⟩:=wu hH hxv hxs;obtain⟨hfx,hlx⟩:=j4 (P:=P) hx2 hx3;have hx3':(xl=0/\∃c,xv= .slice none xl c)\/∃a c',xv= .slice (some a) xl c'/\∀j v,xs'[j]? = some v->w.drew.cell? (a.add j)=some v:=hx3;obtain⟨hfxd,_⟩:=j4 (P:=P) (w:=w.drew) hx2 hx3';have hl:∀w',(Builtin.lenOf xv).run P w'= .ok xl w':=λw'=>by
      rcases hx3 with⟨_,c,rfl⟩ | ⟨a,c',rfl,_⟩<;>rfl
     exact Ik hH bM hc ho (tys htys) hargs hsv hu ⟨_,hu,λk=>by simp⟩ hs hsm hx1 hx2 hl hfx hfxd h
end ops
end
section
variable {P:Program}{W w:World}{φ:bZ}{H:T OB}{tm:T Value}{ρ:Operand->Value}{g:Nat->Option OB}
section ops
variable {o:Oper}{v:Value}{H':T OB}{nx nx':Nat}
theorem wx (hH:HR P W φ (hp H) w)(bM:φ.length=nx){t:TypeId}(ho:o.op= .makeMap t none)
 (h:(cJ (bits nx) H (some (.map [] 0)) λH=>bN (Nat.succ nx) λn=>dI.val (.map (some nx)) H n)= .val v H' nx'):gB P W φ H w ((execOp ρ o).run P w) v H' nx':=by
 rw[aY,a5]at h;cases h;subst bM;refine⟨fresh φ w.heap.size 0 0,.map (some w.heap.size),w.alloc (.map #[] 0),.value (.map (some w.heap.size)),?_,.inl rfl,.map (gS φ _ _ _),jh _ _ _ _,?_,gR _ _ _ _,?_⟩
 . simp[execOp,ho,Instr.makeMap]
 . rw[bu];exact hH.fresh _ ⟨hH.below.size,#[],Go.heap_alloc_new w _,.nil⟩
 . rw[bu];exact fK _ _ _ _ _ _
theorem j6 (hH:HR P W φ (hp H) w)(bM:φ.length=nx){m m':Option Nat}{c:Nat}(hm:wc φ m m'){r:Result Next}
 (hr:r= .ok (.value (.pointer (some ⟨w.heap.size,0,none⟩))) (w.alloc (.mapIter m' c #[] c))) (h:jH H nx m c= .val v H' nx'):gB P W φ H w r v H' nx':=by
 unfold jH at h;rw[aY,a5]at h;cases h;subst bM;refine⟨fresh φ w.heap.size 0 0,_,_,_,hr,.inl rfl,.ptr (gS φ _ _ _),jh _ _ _ _,?_,gR _ _ _ _,?_⟩
 . rw[bu];exact hH.fresh _ ⟨hH.below.size,m',#[],Go.heap_alloc_new w _,rfl,hm⟩
 . rw[bu];exact fK _ _ _ _ _ _
theorem kU {x:Option OB}{k:List MapEntry->Nat->dI}{v:Value}{H':T OB}{nx':Nat}(h:tW x k .bad= .val v H' nx'):∃es c,x=some (.map es c)/\k es c= .val v H' nx':=by
 unfold tW at h;split at h
 . exact⟨_,_,rfl,h⟩
 . cases h
theorem qw {x:Option OB}{k:Option Nat->Nat->List Nat->Nat->dI}{v:Value}{H':T OB}{nx':Nat}(h:nZ x k .bad= .val v H' nx'):
 ∃m s l c,x=some (.iter m s l c)/\k m s l c= .val v H' nx':=by
 unfold nZ at h;split at h
 . exact⟨_,_,_,_,rfl,h⟩
 . cases h
theorem Bm {t:TypeId}{k:TypeDesc->TypeId->dI}{v:Value}{H':T OB}{nx':Nat}(h:mu P t k .bad= .val v H' nx'):
 ∃kt et d,P.underlying t=some (.map kt et)/\P.underlying kt=some d/\kH d=true/\k d et= .val v H' nx':=by
 unfold mu at h;split at h
 . rename_i kt et hu;obtain⟨d,h1,h2⟩:=bP h;obtain⟨h3,h4⟩:=cD h2;exact⟨kt,et,d,hu,h1,h3,h4⟩
 . cases h
theorem Cm (hH:HR P W φ (hp H) w)(bM:φ.length=nx){t:TypeId}{x:Operand}(ho:o.op= .range t x)(hE:∀v,br P tm x=some v->VR φ v (ρ x))
 (h:rf P H nx t (br P tm x)= .val v H' nx'):gB P W φ H w ((execOp ρ o).run P w) v H' nx':=by
 unfold rf at h;obtain⟨ht,h⟩:=cD h;unfold B3 at ht;split at ht
 . rename_i kt et hu;split at h
   . rename_i hx;have hx':=(hE _ hx).aB rfl;refine j6 (m':=none) hH bM (show wc φ none none from trivial) ?_ h;simp[execOp,ho,hx',Instr.range,bh hu]
   . rename_i b hx;obtain⟨e,hb,hx'⟩:=(hE _ hx).kL;obtain⟨es,c,hg,h⟩:=kU h;obtain⟨_,es',hr,hml⟩:=hH.obj b _ e (show hp H b=some (.map es c)from hg) hb;refine j6 (m':=some e.r) hH bM (show wc φ (some b) (some e.r)from⟨e,hb,rfl⟩) ?_ h;simp[execOp,ho,hx',Instr.range,bh hu,MapKept.run_getObj_map hr]
   . cases h
 . cases ht
theorem kg {w:World}{r:Nat}{o o':Obj}(hr:w.heap[r]? = some o)(hn:∀c e f,o ≠ .cells c e f):(setObj r o').run P w= .ok () { w with heap:=w.heap.setIfInBounds r o' }:=by
 unfold Go.setObj;cases o with
 | cells c e f=>exact absurd rfl (hn _ _ _)
 | _=>simp only[Sem.run,hr]
theorem dr {w:World}{r:Nat}{o:Obj}(hr:w.heap[r]? = some o)(hn:∀c e f,o ≠ .cells c e f):(getObj r).run P w= .ok o w:=by
 unfold getObj;cases o with
 | cells c e f=>exact absurd rfl (hn _ _ _)
 | _=>simp only[Sem.run,hr]
theorem HR.setObj (hH:HR P W φ g w){b:Nat}{ob0 ob':OB}{e:fp}(hg:g b=some ob0)(hl:live ob0=true)(hb:φ[b]? = some (some e))(o':Obj)
 (hob:ui P W φ ob' e { w with heap:=w.heap.setIfInBounds e.r o' }):HR P W φ (lQ g b (some ob')) { w with heap:=w.heap.setIfInBounds e.r o' }:=by
 have hab:=ui.Mm hl (hH.obj b ob0 e hg hb);refine hH.put hg hl hb ?_ (by simp) (λr hr=>Array.getElem?_setIfInBounds_ne (λq=>hr q.symm)) hob;exact hH.below.trans ⟨rfl,rfl,rfl,by simp,λk hk=>Array.getElem?_setIfInBounds_ne (by omega)⟩
theorem heap_set {w:World}{r:Nat}{o o':Obj}(hr:w.heap[r]? = some o):({ w with heap:=w.heap.setIfInBounds r o' }:World).heap[r]? = some o':=
 Array.getElem?_setIfInBounds_self_of_lt (Array.getElem?_eq_some_iff.1 hr).1
theorem uu {b:Nat}{e:fp}(hb:φ[b]? = some (some e))(x:Option OB):dW φ φ g (lQ g b x):=λk hk=>⟨hk,aX g (λq=>by subst q;rw[hb]at hk;cases hk) x⟩
theorem my.length {l l':List MapEntry}(h:my φ l l'):l'.length=l.length:=by
 induction h with
 | nil=>rfl
 | cons _ _ ih=>simp[ih]
theorem my.append {a a' b b':List MapEntry}(h:my φ a a')(h':my φ b b'):my φ (a++b) (a'++b'):=by
 induction h with
 | nil=>exact h'
 | cons h _ ih=>exact .cons h ih
theorem my.modify {k k' v v':Value}(hk:VR φ k k')(hv:VR φ v v'){l l':List MapEntry}(h:my φ l l'):∀i,my φ (l.modify i λe=>{ e with key:=k,val:=v }) (l'.modify i λe=>{ e with key:=k',val:=v' }):=by
 induction h with
 | nil=>intro i;cases i<;>exact .nil
 | @cons e e' l l' he hl ih=>
   intro i;cases i with
   | zero=>exact .cons ⟨hk,hv,he.born⟩ hl
   | succ i=>exact .cons he (ih i)
theorem mD {d:TypeDesc}{k:Value}:∀(l:List MapEntry) (i j:Nat) (v:Value),Instr.findNow d k l i=some (some (j,v))->∃n e,j=i+n/\l[n]? = some e/\Instr.sameNow d k e.key=some true
 | [],i,j,v,h=>by cases h
 | e::l,i,j,v,h=>by
   unfold Instr.findNow at h;cases hs:Instr.sameNow d k e.key with
   | none=>rw[hs]at h;cases h
   | some b=>
     rw[hs]at h;cases b with
     | true=>cases h;exact⟨0,e,rfl,rfl,hs⟩
     | false=>
       obtain⟨n,e',h1,h2,h3⟩:=mD l (i+1) j v h;exact⟨n+1,e',by omega,by simpa using h2,h3⟩
theorem bytes_beq {a b:ByteArray}(h:(a == b)=true):(b == a)=true:=by
 have:a=b:=by
  cases a;cases b;exact congrArg _ (eq_of_beq h)
 subst this;exact h
theorem uv {d:TypeDesc}{k a:Value}(h:Instr.sameNow d k a=some true)(n:Nat):Instr.sameBits (n+1) a k=true:=by
 unfold Instr.sameNow at h;split at h
 . split at h
   . rename_i hk;subst hk;injection h with h
     have:=beq_iff_eq.1 h;subst this;simp[Instr.sameBits]
   . cases h
 . injection h with h
   simp only[Instr.sameBits];exact bytes_beq h
 . injection h with h
   have:=beq_iff_eq.1 h;subst this;simp[Instr.sameBits]
 . cases h
theorem kV (hH:HR P W φ (hp H) w)(bM:φ.length=nx){t:TypeId}{m k x:Operand}(ho:o.op= .mapUpdate t m k x)(hE:lJ P φ tm ρ [m,k,x])
 (h:gf P H nx t (br P tm m) (br P tm k) (br P tm x)= .val v H' nx'):gB P W φ H w ((execOp ρ o).run P w) v H' nx':=by
 unfold gf at h;obtain⟨kt,et,d,hu,hd,hkk,h⟩:=Bm h;obtain⟨b,hm,h⟩:=bP h;obtain⟨kv,hk,h⟩:=bP h;obtain⟨xv,hx,h⟩:=bP h;obtain⟨es,c,hg,h⟩:=kU h;have hm':br P tm m=some (.map (some b)):=by
  unfold Ic at hm;split at hm
  . rename_i q;cases hm;exact q
  . cases hm
 obtain⟨e,hb,hmr⟩:=(hE m (by simp) _ hm').kL;have hkv:=hE k (by simp) kv hk;have hxv:=hE x (by simp) xv hx;have hgb:hp H b=some (.map es c):=hg;obtain⟨hab,es',hr,hml⟩:=hH.obj b _ e hgb hb;have hnc:∀c' e' f,Obj.map es' c ≠ .cells c' e' f:=λ_ _ _=>by simp
 cases hf:Instr.findNow d kv es 0 with
 | none=>rw[hf]at h;cases h
 | some r=>
   rw[hf]at h;obtain⟨r',hf',hfr⟩:=ov hkv hml 0 r hf;have hfk:=run_findKey hd hf' w;have fin:∀(nes:List MapEntry) (nes':Array MapEntry) (nc:Nat),my φ nes nes'.toList->(execOp ρ o).run P w= .ok .skip { w with heap:=w.heap.setIfInBounds e.r (.map nes' nc) }->
    gB P W φ H w ((execOp ρ o).run P w) undef (set H (bits b) (some (.map nes nc))) nx:=λnes nes' nc hn hrun=>
    ⟨φ,undef,_,.skip,hrun,.inr ⟨rfl,rfl⟩,.flat _ rfl,φ.le_refl,by rw[bu];exact hH.setObj hgb rfl hb _ ⟨hab,nes',heap_set hr,hn⟩,bM,by rw[bu];exact uu hb _⟩
   cases hfr with
   | @some i u u' hu'=>
     have h:(cJ (bits b) H (some (.map (es.modify i λe=>{ e with key:=kv,val:=xv }) c)) λH=>dI.val undef H nx)= .val v H' nx':=h;rw[aY]at h;cases h;refine fin _ (es'.modify i λe=>{ e with key:=ρ k,val:=ρ x }) c (by rw[Array.toList_modify];exact hml.modify hkv hxv i) ?_;obtain⟨n,en,hn1,hn2,hn3⟩:=mD _ _ _ _ hf';rw[Nat.zero_add]at hn1;subst hn1;have hkey:(Instr.keyThatStays (((es'[i]?).map (·.key)).getD (ρ k)) (ρ k)).run P w= .ok (ρ k) w:=by
      have h1:es'[i]? = some en:=by simpa using hn2
      rw[h1];simp only[Option.map_some,Option.getD_some,Instr.keyThatStays,uv hn3 9999,if_true];rfl
     simp only[execOp,ho,hmr,Instr.mapUpdate,Sem.run_bind,bh hu,Result.andThen_ok,dr hr hnc,run_checkKey hd hkk,hfk,hkey,kg hr hnc];rfl
   | none=>
     have h:(bN (Nat.succ c) λc'=>cJ (bits b) H (some (.map (es++[⟨kv,xv,c⟩]) c')) λH=>dI.val undef H nx)= .val v H' nx':=h;rw[a5,aY]at h;cases h;refine fin _ (es'.push { key:=ρ k,val:=ρ x,born:=c }) (c+1) (by rw[Array.toList_push];exact hml.append (.cons ⟨hkv,hxv,rfl⟩ .nil)) ?_;simp only[execOp,ho,hmr,Instr.mapUpdate,Sem.run_bind,bh hu,Result.andThen_ok,dr hr hnc,run_checkKey hd hkk,hfk,kg hr hnc];rfl
theorem my.filter {l l':List MapEntry}(h:my φ l l')(p:Nat->Bool):my φ (l.filter λe=>p e.born) (l'.filter λe=>p e.born):=by
 induction h with
 | nil=>exact .nil
 | @cons e e' l l' he hl ih=>
   simp only[List.filter_cons,he.born];split
   . exact .cons he ih
   . exact ih
theorem my.all {l l':List MapEntry}(h:my φ l l')(p:Nat->Bool):(l'.all λe=>p e.born)=(l.all λe=>p e.born):=by
 induction h with
 | nil=>rfl
 | cons he _ ih=>simp only[List.all_cons,he.born,ih]
theorem FA (hH:HR P W φ (hp H) w)(bM:φ.length=nx){x:Operand}{isS:Bool}(ho:o.op= .next x isS)(hE:∀v,br P tm x=some v->VR φ v (ρ x))
 (h:v5 H nx (br P tm x) isS= .val v H' nx'):gB P W φ H w ((execOp ρ o).run P w) v H' nx':=by
 unfold v5 at h;cases isS with
 | true=>cases h
 | false=>
   have h:tQ (br P tm x) (λr off=>bif Nat.beq off 0 then nZ (H.get (bits r)) (λm since seen last=>match m with
    | none=>dI.val (.tuple #[.bool false]) H nx
    | some m=>qd H nx r m since last seen) .bad else .bad) .bad= .val v H' nx':=h
   obtain⟨r,off,hx,h⟩:=ox h;obtain⟨h0,h⟩:=cD h;have h0:=beq_eq h0;subst h0;obtain⟨m,since,seen,last,hg,h⟩:=qw h;obtain⟨e,hb,_,hxr⟩:=(hE _ hx).dC;have hgb:hp H r=some (.iter m since seen last):=hg;obtain⟨hab,m',seen',hr,hseen,hmn⟩:=hH.obj r _ e hgb hb;have hnc:∀c' e' f,Obj.mapIter m' since seen' last ≠ .cells c' e' f:=λ_ _ _=>by simp
   have over:(execOp ρ o).run P w= .ok (.value (.tuple #[.bool false])) w->gB P W φ H w ((execOp ρ o).run P w) (.tuple #[.bool false]) H nx:=λhrun=>
    ⟨φ,_,w,_,hrun,.inl rfl,.flat _ rfl,φ.le_refl,hH,bM,dW.refl _ _⟩
   cases m with
   | none=>
     cases m' with
     | some _=>exact hmn.elim
     | none=>
       have h:dI.val (.tuple #[.bool false]) H nx= .val v H' nx':=h;cases h;refine over ?_;simp only[execOp,ho,hxr,Instr.next,Sem.run_bind,dr hr hnc,Result.andThen_ok];rfl
   | some m=>
     cases m' with
     | none=>exact hmn.elim
     | some m'=>
       obtain⟨em,hbm,rfl⟩:=hmn;have h:qd H nx r m since last seen= .val v H' nx':=h;unfold qd at h;obtain⟨es,c,hgm,h⟩:=kU h;obtain⟨_,es',hrm,hml⟩:=hH.obj m _ em (show hp H m=some (.map es c)from hgm) hbm;have hncm:∀c' e' f,Obj.map es' c ≠ .cells c' e' f:=λ_ _ _=>by simp
       cases hbad: !seen.isEmpty && !es.isEmpty&&es.all (λe=>Nat.ble last e.born)with
       | true=>rw[hbad]at h;cases h
       | false=>
         rw[hbad]at h;have h:vZ H nx r m since c seen (es.filter λe=> !seen.contains e.born)= .val v H' nx':=h;have hsn:∀b,seen'.contains b=seen.contains b:=λb=>by rw[<- hseen];simp
         have h1:seen'.isEmpty=seen.isEmpty:=by rw[<- hseen];simp
         have h2:es'.isEmpty=es.isEmpty:=by
          have hl:=hml.length;have:es'.toList.isEmpty=es.isEmpty:=by
           cases es with
           | nil=>cases hq:es'.toList with
             | nil=>rfl
             | cons a l=>rw[hq]at hl;simp at hl
           | cons a l=>cases hq:es'.toList with
             | nil=>rw[hq]at hl;simp at hl
             | cons b m=>rfl
          rw[<- this];simp
         have h3:(es'.all λe=>decide (e.born>=last))=es.all (λe=>Nat.ble last e.born):=by
          have:=hml.all (λb=>decide (b>=last));rw[<- Array.all_toList,this];congr 1;funext e;rw[Bool.eq_iff_iff];simp only[decide_eq_true_eq];exact⟨λq=>Nat.ble_eq_true_of_le q,λq=>cg q⟩
         have hcond:(!seen'.isEmpty && !es'.isEmpty&&es'.all (λe=>decide (e.born>=last)))=false:=by rw[h1,h2,h3];exact hbad
         have hcond':¬((!seen'.isEmpty && !es'.isEmpty&&es'.all (λe=>decide (e.born>=last)))=true):=by rw[hcond];decide
         have hleft:=hml.filter (λb=> !seen.contains b);have hle:es'.filter (λe=> !seen'.contains e.born)=(es'.toList.filter λe=> !seen.contains e.born).toArray:=by
          apply Array.ext';simp only[Array.toList_filter,hsn]
         generalize hL:(es'.toList.filter λe=> !seen.contains e.born)=L' at hleft hle;generalize hLo:(es.filter λe=> !seen.contains e.born)=L at hleft h;cases hleft with
         | nil=>
           have h:dI.val (.tuple #[.bool false]) H nx= .val v H' nx':=h;cases h;refine over ?_;simp only[execOp,ho,hxr,Instr.next,Sem.run_bind,dr hr hnc,dr hrm hncm,Result.andThen_ok];rw[if_neg hcond',hle];simp[Question.forced]
         | @cons e1 e1' l l' he1 hl=>
           cases l with
           | cons _ _=>cases h
           | nil=>
             cases hl;obtain⟨hlt,h⟩:=cD (show(bif Nat.blt e1.born since then cJ (bits r) H (some (.iter (some m) since (seen++[e1.born]) c)) (λH=>dI.val (.tuple #[.bool true,e1.key,e1.val]) H nx)else .bad)= .val v H' nx' from h);rw[aY]at h;cases h;have hlt:=dJ hlt;have hb1:=he1.born;have hrun:(execOp ρ o).run P w= .ok (.value (.tuple #[.bool true,e1'.key,e1'.val])) { w with heap:=w.heap.setIfInBounds e.r (.mapIter (some em.r) since (seen'.push e1'.born) c) }:=by
              have c1:¬(since<=e1'.born):=by omega
              have c2:e1'.born<since:=by omega
              simp only[execOp,ho,hxr,Instr.next,Sem.run_bind,dr hr hnc,dr hrm hncm,Result.andThen_ok];rw[if_neg hcond',hle];simp[Question.forced,c1,c2,kg hr hnc]
             refine⟨φ,_,_,_,hrun,.inl rfl,(LR.cons (.flat (.bool true) rfl) (LR.cons he1.key (LR.cons he1.val LR.nil))).tuple,φ.le_refl,?_,bM,by rw[bu];exact uu hb _⟩;rw[bu];exact hH.setObj hgb rfl hb _ ⟨hab,some em.r,seen'.push e1'.born,heap_set hr,by rw[Array.toList_push,hseen,hb1],em,hbm,rfl⟩
theorem my.find {l l':List MapEntry}(h:my φ l l')(st:Nat){e:MapEntry}(hf:l.find? (λe=>e.born == st)=some e):∃e',l'.find? (λe=>e.born == st)=some e'/\Qy φ e e':=by
 induction h with
 | nil=>cases hf
 | @cons a a' l l' ha _ ih=>
   simp only[List.find?_cons,ha.born]at hf ⊢;cases hb:a.born == st with
   | true=>rw[hb]at hf;cases hf;exact⟨a',rfl,ha⟩
   | false=>rw[hb]at hf;exact ih hf
theorem Cn (hH:HR P W φ (hp H) w)(bM:φ.length=nx){x:Operand}(ho:o.op= .entry x)(hE:∀v,br P tm x=some v->VR φ v (ρ x))
 (h:ri H nx (br P tm x)= .val v H' nx'):gB P W φ H w ((execOp ρ o).run P w) v H' nx':=by
 unfold ri at h;obtain⟨r,off,hx,h⟩:=ox h;obtain⟨h0,h⟩:=cD h;have h0:=beq_eq h0;subst h0;obtain⟨m,since,seen,last,hg,h⟩:=qw h;cases m with
 | none=>cases h
 | some m=>
 rw[aN]at h;obtain⟨st,hst,h⟩:=bP h;obtain⟨es,c,hgm,h⟩:=kU h;obtain⟨hc,h9⟩:=cD h;have hc:=beq_eq hc;subst hc;obtain⟨e,hb,_,hxr⟩:=(hE _ hx).dC;obtain⟨hab,m',seen',hr,hseen,hmn⟩:=hH.obj r _ e (show hp H r=some (.iter (some m) since seen c)from hg) hb;cases m' with
 | none=>exact hmn.elim
 | some m'=>
   obtain⟨em,hbm,rfl⟩:=hmn;obtain⟨_,es',hrm,hml⟩:=hH.obj m _ em (show hp H m=some (.map es c)from hgm) hbm;have hnc:∀c' e' f,Obj.mapIter (some em.r) since seen' c ≠ .cells c' e' f:=λ_ _ _=>by simp
   have hncm:∀c' e' f,Obj.map es' c ≠ .cells c' e' f:=λ_ _ _=>by simp
   have hback:seen'.back? = some st:=by rw[<- hst,<- hseen];simp
   unfold rh at h9;cases hf:es.find? (λe=>e.born == st)with
   | none=>simp only[hf]at h9;cases h9
   | some e1=>
     simp only[hf]at h9;cases h9;obtain⟨e1',hf',he1⟩:=hml.find st hf;have hf2:es'.find? (λe=>e.born == st)=some e1':=by simpa using hf'
     refine⟨φ,_,w,_,?_,.inl rfl,(LR.cons he1.key (LR.cons he1.val LR.nil)).tuple,φ.le_refl,hH,bM,dW.refl _ _⟩;simp[execOp,ho,hxr,Instr.entry,dr hr hnc,dr hrm hncm,hback,hf2]
theorem oB (hH:HR P W φ (hp H) w)(bM:φ.length=nx)(hE:lJ P φ tm ρ o.op.operands.toList)(h:ef P H nx tm o= .val v H' nx'):
 gB P W φ H w ((execOp ρ o).run P w) v H' nx':=by
 unfold ef at h;cases ho:o.op with
 | alloc e=>simp only[ho]at h;exact Cl hH bM ho h
 | box e x=>simp only[ho]at h;exact JX hH bM ho (λv hv=>hE x (by rw[ho];simp[Op.operands]) v hv) h
 | store t a x=>simp only[ho]at h;exact um hH bM ho (by rw[ho]at hE;exact hE) h
 | buildSlice t len ps=>simp only[ho]at h;exact pV hH bM ho hE h
 | makeSlice t l c=>simp only[ho]at h;exact rF hH bM ho (by rw[ho]at hE;exact hE) h
 | makeMap t r=>
   simp only[ho]at h;cases r with
   | none=>exact wx hH bM ho h
   | some x=>cases h
 | mapUpdate t m k x=>simp only[ho]at h;exact kV hH bM ho (by rw[ho]at hE;exact hE) h
 | insert t m k x=>
   simp only[ho]at h;have h2:=kV (o:={ o with op:= .mapUpdate t m k x }) hH bM rfl (by rw[ho]at hE;exact hE) h;have e:execOp ρ o=execOp ρ { o with op:= .mapUpdate t m k x }:=by simp only[execOp,ho]
   rw[e];exact h2
 | range t x=>simp only[ho]at h;exact Cm hH bM ho (λv hv=>hE x (by rw[ho];simp[Op.operands]) v hv) h
 | next x b=>simp only[ho]at h;exact FA hH bM ho (λv hv=>hE x (by rw[ho];simp[Op.operands]) v hv) h
 | entry x=>simp only[ho]at h;exact Cn hH bM ho (λv hv=>hE x (by rw[ho];simp[Op.operands]) v hv) h
 | defer c=>
   simp only[ho]at h;unfold ia at h;split at h<;>cases h
 | panic x=>
   simp only[ho]at h;unfold v7 at h;split at h<;>cases h
 | call c=>
   simp only[ho]at h;unfold fo at h;split at h
   . unfold tU at h;split at h
     . obtain⟨l,_,h⟩:=bP h;obtain⟨_,h⟩:=cD h;cases h
     . cases h
   . rename_i hc;exact Bl hH bM hc ho (λx hx v hv=>hE x (by rw[ho];simp[Op.operands,Call.operands,hc];simpa using hx) v hv) h
   . cases h
   . cases h
   . cases h
 | _=>simp only[ho]at h;cases h
theorem Bn {α:Type}{x:Option α}{k:α->dI}{f:FuncId}{l:List Value}(h:aa x k .bad= .call f l):∃a,x=some a/\k a= .call f l:=by
 cases x with
 | none=>cases h
 | some a=>exact⟨a,rfl,h⟩
theorem Co {b:Bool}{x:dI}{f:FuncId}{l:List Value}(h:(bif b then x else .bad)= .call f l):b=true/\x= .call f l:=by
 cases b
 . cases h
 . exact⟨rfl,h⟩
theorem wy {f:FuncId}(h:i_ P f=true):∃fn,P.funcs[f]? = some fn/\fn.body.isSome=true/\(fn.name == "runtime.NumGoroutine")=false:=by
 unfold i_ at h;split at h
 . rename_i fn hfn;simp only[Bool.and_eq_true,Bool.not_eq_true']at h;exact⟨fn,hfn,h.1,h.2⟩
 . cases h
theorem kW {f:FuncId}(h:i_ P f=true)(args:Array Value)(w:World):(callFunc f args).run P w= .ok (.enter f args) w:=by
 obtain⟨fn,h1,h2,h3⟩:=wy h;have h2':fn.body.isNone=false:=by cases hb:fn.body<;>simp_all
 simp only[callFunc,Sem.run_bind,run_program,Result.andThen_ok,h1];simp[h3,h2']
theorem uw {c:Call}{fv:Operand}(hE:lJ P φ tm ρ (fv::c.args.toList)){f:FuncId}{l:List Value}(h:tU P (br P tm fv) (m4 P tm c.args.toList)= .call f l):
 ∃a' cap',ρ fv= .func (.func f) #[] ⟨cap'⟩/\a'=c.args.toList.map ρ/\LR φ l (a'++cap')/\i_ P f=true:=by
 unfold tU at h;split at h
 . rename_i g cap hf;obtain⟨vs,hvs,h⟩:=Bn h;obtain⟨hok,h⟩:=Co h;cases h;obtain⟨cap',hv',hcap⟩:=(hE fv (by simp) _ hf).Cb;have hargs:=lS _ _ (λx hx=>hE x (by simp[hx])) hvs;exact⟨_,cap',hv',rfl,hargs.append hcap,hok⟩
 . cases h
def PL (e:dI):Prop:=match e with
 | .val _ _ _=>True
 | .bad=>True
 | _=>False
theorem ck {α:Type}{x:Option α}{k:α->dI}(h:∀a,PL (k a)):PL (aa x k .bad):=by
 cases x with
 | none=>trivial
 | some a=>exact h a
theorem cL {b:Bool}{x y:dI}(h:PL x)(h':PL y):PL (bif b then x else y):=by
 cases b
 . exact h'
 . exact h
theorem oC {H:T OB}{nx:Nat}{e:TypeId}{m:Nat}{l:List Value}:PL (gd H nx e m l):=by rw[gi];trivial
theorem kh {t:TypeId}{k:TypeId->Nat->dI}(h:∀e s,PL (k e s)):PL (cV P t k .bad):=by
 unfold cV;split
 . exact ck λs=>h _ s
 . trivial
theorem qx {x:Option OB}{k:Nat->T Value->TypeId->dI}(h:∀n t e,PL (k n t e)):PL (dh x k .bad):=by
 unfold dh;split
 . exact h _ _ _
 . trivial
theorem rG {x:Option Value}{k:Nat->Nat->dI}(h:∀a b,PL (k a b)):PL (tQ x k .bad):=by
 unfold tQ;split
 . exact h _ _
 . trivial
theorem kX {x:Option OB}{k:List MapEntry->Nat->dI}(h:∀a b,PL (k a b)):PL (tW x k .bad):=by
 unfold tW;split
 . exact h _ _
 . trivial
theorem ux {x:Option OB}{k:Option Nat->Nat->List Nat->Nat->dI}(h:∀a b c d,PL (k a b c d)):PL (nZ x k .bad):=by
 unfold nZ;split
 . exact h _ _ _ _
 . trivial
theorem uy {t:TypeId}{k:TypeDesc->TypeId->dI}(h:∀a b,PL (k a b)):PL (mu P t k .bad):=by
 unfold mu;split
 . exact ck λd=>cL (h _ _) trivial
 . trivial
theorem xS {e:TypeId}{s sl sc xl:Nat}{base:Option Addr}{xs:List Value}:PL (pR P H nx e s base sl sc xl xs):=by
 unfold pR;split
 . exact cL (cL trivial oC) trivial
 . unfold tV;refine qx λn tr el=>cL ?_ (cL ?_ ?_)
   . unfold L3;refine cL (ck λold=> ?_) trivial;rw[aY];exact oC
   . unfold A9;refine cL ?_ trivial;rw[cC,aY,a5]
     trivial
   . unfold mw;exact cL (ck λold=>oC) trivial
 . trivial
theorem qy {ts:List TypeId}{l:Option (List Value)}:PL (bt P H nx ts l):=by
 unfold bt;split
 . exact cL (kh λe s=>cL xS trivial) trivial
 . unfold kI;split
   . exact cL trivial (kh λe s=>ck λp=>cL xS trivial)
   . trivial
theorem xT {b:Nat}{es:List MapEntry}{c:Nat}{k v:Value}{r:Option (Option (Nat×Value))}:PL (JJ H nx b es c k v r):=by
 unfold JJ;split
 . rw[aY];trivial
 . rw[a5,aY];trivial
 . trivial
theorem oD {m:Option Nat}{c:Nat}:PL (jH H nx m c):=by unfold jH;rw[aY,a5];trivial
theorem Cp {r m since last:Nat}{seen:List Nat}:PL (qd H nx r m since last seen):=by
 unfold qd;refine kX λes c=>cL trivial ?_;unfold vZ;split
 . trivial
 . refine cL ?_ trivial;rw[aY];trivial
 . trivial
theorem Bo {es:List MapEntry}{st:Nat}:PL (rh H nx es st):=by
 unfold rh;split<;>trivial
theorem oE {c:Call}{f:FuncId}{l:List Value}(h:fo P H nx tm c= .call f l):∃fv,c.callee= .value fv/\tU P (br P tm fv) (m4 P tm c.args.toList)= .call f l:=by
 unfold fo at h;split at h
 . rename_i fv hc;exact⟨fv,hc,h⟩
 . have:=qy (P:=P) (H:=H) (nx:=nx) (ts:=c.argTypes.toList) (l:=m4 P tm c.args.toList);rw[h]at this;exact this.elim
 . cases h
 . cases h
 . cases h
theorem Cq (h1:∀c,o.op ≠ .call c)(h2:∀c,o.op ≠ .defer c)(h3:∀x,o.op ≠ .panic x):PL (ef P H nx tm o):=by
 unfold ef;cases ho:o.op with
 | call c=>exact absurd ho (h1 c)
 | defer c=>exact absurd ho (h2 c)
 | panic x=>exact absurd ho (h3 x)
 | alloc e=>
   refine ck λl=> ?_;rw[dD];trivial
 | box e x=>
   refine ck λl=> ?_;rw[dD];trivial
 | store t a x=>
   refine rG λb off=>ck λv=>qx λn tr e=>ck λs=>cL ?_ trivial;rw[cC,aY];trivial
 | buildSlice t len ps=>
   refine ck λvs=>kh λe s=>ck λz=>cL (ck λcs=> ?_) trivial;rw[dD,a5];trivial
 | makeSlice t a c=>
   show PL (fe P H nx t (br P tm a) (br P tm c));unfold fe;split
   . rename_i i j e _ _ _;cases i with
     | negSucc i=>exact trivial
     | ofNat i=>
     cases j with
     | negSucc j=>
       show PL (gb ((i:Nat):Int) (λl=>gb (Int.negSucc j) (λc=>A8 P H nx e l c) .bad) .bad);rw[ek];exact trivial
     | ofNat j=>
     show PL (gb ((i:Nat):Int) (λl=>gb ((j:Nat):Int) (λc=>A8 P H nx e l c) .bad) .bad);rw[ek,ek];unfold A8;split
     . refine cL ?_ trivial;split
       . rw[aY,a5];trivial
       . refine cL ?_ trivial;rw[dD];trivial
     . trivial
   . trivial
 | makeMap t r=>
   cases r with
   | none=>
     show PL (cJ (bits nx) H (some (.map [] 0)) λH=>bN (Nat.succ nx) λn=>dI.val (.map (some nx)) H n);rw[aY,a5];trivial
   | some x=>trivial
 | mapUpdate t m k x=>exact uy λd et=>ck λb=>ck λk=>ck λv=>kX λes c=>xT
 | insert t m k x=>exact uy λd et=>ck λb=>ck λk=>ck λv=>kX λes c=>xT
 | range t x=>
   refine cL ?_ trivial;split
   . exact oD
   . exact kX λes c=>oD
   . trivial
 | next x b=>
   refine cL trivial (rG λr off=>cL (ux λm s l c=> ?_) trivial);cases m with
   | none=>trivial
   | some m=>exact Cp
 | entry x=>exact rG λr off=>cL (ux λm s l c=>ck λm=>ck λst=>kX λes c=>cL Bo trivial) trivial
 | _=>trivial
theorem xU {e:dI}(h:ef P H nx tm o=e)(hp:¬PL e):(∃c,o.op= .call c/\fo P H nx tm c=e)\/(∃c,o.op= .defer c/\ia (fo P H nx tm c)=e)\/
 (∃x,o.op= .panic x/\v7 (br P tm x)=e):=by
 by_cases h1:∃c,o.op= .call c
 . obtain⟨c,hc⟩:=h1;refine .inl ⟨c,hc,?_⟩;rw[<- h];unfold ef;simp only[hc]
 . by_cases h2:∃c,o.op= .defer c
   . obtain⟨c,hc⟩:=h2;refine .inr (.inl ⟨c,hc,?_⟩);rw[<- h];unfold ef;simp only[hc]
   . by_cases h3:∃x,o.op= .panic x
     . obtain⟨x,hx⟩:=h3;refine .inr (.inr ⟨x,hx,?_⟩);rw[<- h];unfold ef;simp only[hx]
     . have:=Cq (P:=P) (H:=H) (nx:=nx) (tm:=tm) (o:=o) (λc q=>h1 ⟨c,q⟩) (λc q=>h2 ⟨c,q⟩) (λc q=>h3 ⟨c,q⟩);rw[h]at this;exact absurd this hp
theorem Bp {f:Option Value}{l:Option (List Value)}:(∃g a,tU P f l= .call g a)\/tU P f l= .bad:=by
 unfold tU;split
 . cases l with
   | none=>exact .inr rfl
   | some l=>
     rw[aN];rename_i g cap;cases i_ P g with
     | true=>exact .inl ⟨_,_,rfl⟩
     | false=>exact .inr rfl
 . exact .inr rfl
theorem ki {c:Call}:(∀f l,fo P H nx tm c ≠ .L1 f l)/\(∀v,fo P H nx tm c ≠ .eR v)/\(fo P H nx tm c= .L2->c.callee= .builtin .recover):=by
 unfold fo;split
 . rcases Bp (P:=P) (f:=br P tm _) (l:=m4 P tm c.args.toList)with⟨g,a,h⟩ | h
   . rw[h];exact⟨λ_ _ q=>(nomatch q),λ_ q=>(nomatch q),λq=>(nomatch q)⟩
   . rw[h];exact⟨λ_ _ q=>(nomatch q),λ_ q=>(nomatch q),λq=>(nomatch q)⟩
 . have:=qy (P:=P) (H:=H) (nx:=nx) (ts:=c.argTypes.toList) (l:=m4 P tm c.args.toList);refine⟨λf l q=> ?_,λv q=> ?_,λq=> ?_⟩<;>(rw[q]at this;exact this.elim)
 . rename_i hc;exact⟨λ_ _ q=>(nomatch q),λ_ q=>(nomatch q),λ_=>hc⟩
 . exact⟨λ_ _ q=>(nomatch q),λ_ q=>(nomatch q),λq=>(nomatch q)⟩
 . exact⟨λ_ _ q=>(nomatch q),λ_ q=>(nomatch q),λq=>(nomatch q)⟩
theorem xV {f:FuncId}{l:List Value}(hE:lJ P φ tm ρ o.op.operands.toList)(h:ef P H nx tm o= .call f l):
 ∃l',LR φ l l'/\i_ P f=true/\∀w,(execOp ρ o).run P w= .ok (.enter f l'.toArray) w:=by
 obtain⟨c,ho,h⟩:∃c,o.op= .call c/\fo P H nx tm c= .call f l:=by
  rcases xU h (λq=>q)with q | ⟨c,_,q⟩ | ⟨x,_,q⟩
  . exact q
  . unfold ia at q;split at q<;>cases q
  . unfold v7 at q;split at q<;>cases q
 obtain⟨fv,hc,h⟩:=oE h;have hops:o.op.operands.toList=fv::c.args.toList:=by rw[ho];simp[Op.operands,Call.operands,hc]
 rw[hops]at hE;obtain⟨a',cap',hv',rfl,hLR,hok⟩:=uw hE h;refine⟨_,hLR,hok,λw=> ?_⟩;have e1:(c.args.map ρ++⟨cap'⟩:Array Value)=(c.args.toList.map ρ++cap').toArray:=Array.ext' (by simp);simp only[execOp,ho,resolve,hc,hv',Deferred.ofValue,Sem.run_bind,Sem.run_pure,Result.andThen_ok,invoke];simp[kW hok,e1]
def Mp (P:Program)(φ:bZ)(d:FuncId×List Value)(d':Deferred):Prop:=∃a' cap',d'={ target:= .fn (.func d.1) ⟨cap'⟩,args:=a' }/\LR φ d.2 (a'.toList++cap')/\i_ P d.1=true
theorem Mp.mono {φ':bZ}(hle:φ.le φ'){d:FuncId×List Value}{d':Deferred}(h:Mp P φ d d'):Mp P φ' d d':=by
 obtain⟨a,b,c,d,e⟩:=h;exact⟨a,b,c,d.mono hle,e⟩
theorem JZ {f:FuncId}{l:List Value}(hE:lJ P φ tm ρ o.op.operands.toList)(h:ef P H nx tm o= .L1 f l):∃d',Mp P φ (f,l) d'/\∀w,(execOp ρ o).run P w= .ok (.defer d') w:=by
 rcases xU h (λq=>q)with⟨c,_,q⟩ | ⟨c,ho,q⟩ | ⟨x,_,q⟩
 . exact absurd q (ki.1 f l)
 . unfold ia at q;split at q
   . rename_i g a hq;cases q;obtain⟨fv,hc,hgo⟩:=oE hq;have hops:o.op.operands.toList=fv::c.args.toList:=by rw[ho];simp[Op.operands,Call.operands,hc]
     rw[hops]at hE;obtain⟨a',cap',hv',rfl,hLR,hok⟩:=uw hE hgo;refine⟨_,⟨c.args.map ρ,cap',rfl,by simpa using hLR,hok⟩,λw=> ?_⟩;simp[execOp,ho,resolve,hc,hv',Deferred.ofValue]
   . cases q
 . unfold v7 at q;split at q<;>cases q
theorem Cr {v:Value}(hE:lJ P φ tm ρ o.op.operands.toList)(h:ef P H nx tm o= .eR v):∃v',VR φ v v'/\∀w,(execOp ρ o).run P w= .halt (.panic v') w:=by
 rcases xU h (λq=>q)with⟨c,_,q⟩ | ⟨c,_,q⟩ | ⟨x,ho,q⟩
 . exact absurd q (ki.2.1 v)
 . unfold ia at q;split at q<;>cases q
 . unfold v7 at q;split at q
   . rename_i t u hx;cases q;obtain⟨u',h1,h2⟩:=(hE x (by rw[ho];simp[Op.operands]) _ hx).gQ;exact⟨_,.iface h2,λw=>by simp[execOp,ho,h1,Instr.panic]⟩
   . cases q
theorem J0 (h:ef P H nx tm o= .L2)(w:World):(execOp ρ o).run P w= .ok .recover w:=by
 rcases xU h (λq=>q)with⟨c,ho,q⟩ | ⟨c,_,q⟩ | ⟨x,_,q⟩
 . have hc:=ki.2.2 q;simp[execOp,ho,resolve,hc,invoke,builtin]
 . unfold ia at q;split at q<;>cases q
 . unfold v7 at q;split at q<;>cases q
end ops
end
end
end Go.Ev
namespace Go.Ev
noncomputable section
set_option maxRecDepth 100000
set_option linter.unusedVariables false
set_option linter.unusedSimpArgs false
section
variable {P:Program}{H H':T OB}{tm tm':T Value}
theorem ji:∀(ps:List (Nat×Operand)),(∀p∈ps,br P tm' p.2=br P tm p.2)->parts P tm' ps=parts P tm ps
 | [],_=>rfl
 | p::ps,h=>by simp only[parts,h p (by simp),ji ps (λq hq=>h q (by simp[hq]))]
theorem lX:∀(l:List Operand),(∀x∈l,br P tm' x=br P tm x)->m4 P tm' l=m4 P tm l
 | [],_=>rfl
 | x::l,h=>by simp only[m4,h x (by simp),lX l (λy hy=>h y (by simp[hy]))]
theorem kj {x:Option Operand}(h:∀y∈x.toList,br P tm' y=br P tm y):eA P tm' x=eA P tm x:=by
 cases x with
 | none=>rfl
 | some y=>simp only[eA,h y (by simp)]
theorem Cs {o:Oper}(h:∀x∈o.op.operands.toList,br P tm' x=br P tm x):rd P H tm' o=rd P H tm o:=by
 unfold rd;cases ho:o.op with
 | move x=>simp only[ho]at h;exact h x (by simp[Op.operands])
 | assign x=>simp only[ho]at h;exact h x (by simp[Op.operands])
 | pick c a b=>
   simp only[ho]at h;show nR (br P tm' c) (br P tm' a) (br P tm' b)=nR (br P tm c) (br P tm a) (br P tm b);rw[h c (by simp[Op.operands]),h a (by simp[Op.operands]),h b (by simp[Op.operands])]
 | load t x=>simp only[ho]at h;show ae P H t (br P tm' x)=ae P H t (br P tm x);rw[h x (by simp[Op.operands])]
 | nilCheck x=>simp only[ho]at h;show aP (br P tm' x)=aP (br P tm x);rw[h x (by simp[Op.operands])]
 | fieldAddr s x f=>simp only[ho]at h;show ab P s (br P tm' x) f=ab P s (br P tm x) f;rw[h x (by simp[Op.operands])]
 | indexAddr t x ix=>
   simp only[ho]at h;show ay P t (br P tm' x) (br P tm' ix)=ay P t (br P tm x) (br P tm ix);rw[h x (by simp[Op.operands]),h ix (by simp[Op.operands])]
 | extract x i=>simp only[ho]at h;show ar (br P tm' x) i=ar (br P tm x) i;rw[h x (by simp[Op.operands])]
 | field t x f=>simp only[ho]at h;show rdField P t (br P tm' x) f=rdField P t (br P tm x) f;rw[h x (by simp[Op.operands])]
 | slice t x lo hi mx=>
   have hops:o.op.operands.toList=[x]++lo.toList++hi.toList++mx.toList:=by rw[ho];cases lo<;>cases hi<;>cases mx<;>rfl
   rw[hops]at h;show bm P H t (br P tm' x) (eA P tm' lo) (eA P tm' hi) (eA P tm' mx)=bm P H t (br P tm x) (eA P tm lo) (eA P tm hi) (eA P tm mx);rw[h x (by simp),kj (x:=lo) (λy hy=>h y (by simp[hy])),kj (x:=hi) (λy hy=>h y (by simp[hy])),kj (x:=mx) (λy hy=>h y (by simp[hy]))]
 | call c=>
   show nX P tm' o c=nX P tm o c;unfold nX;split
   all_goals first
    | rfl
    | (rename_i hc
       rw[lX c.args.toList (λx hx=>h x (by rw[ho];simp[Op.operands,Call.operands,hc];simpa using hx))])
 | makeFunc fn a b=>
   show nV fn a.toList (m4 P tm' b.toList)=nV fn a.toList (m4 P tm b.toList);rw[lX b.toList (λx hx=>h x (by rw[ho];simp[Op.operands];right;simpa using hx))]
 | typeAssert x xt t ok=>simp only[ho]at h;show fG P (br P tm' x) t ok=fG P (br P tm x) t ok;rw[h x (by simp[Op.operands])]
 | lookup t m k ok=>
   simp only[ho]at h;show eD P H t (br P tm' m) (br P tm' k) ok=eD P H t (br P tm m) (br P tm k) ok;rw[h m (by simp[Op.operands]),h k (by simp[Op.operands])]
 | convert s d x=>simp only[ho]at h;show cB P H s d (br P tm' x)=cB P H s d (br P tm x);rw[h x (by simp[Op.operands])]
 | index t x ix=>
   simp only[ho]at h;show aH P t (br P tm' x) (br P tm' ix)=aH P t (br P tm x) (br P tm ix);rw[h x (by simp[Op.operands]),h ix (by simp[Op.operands])]
 | binOp op t x y yt=>
   simp only[ho]at h;show ah P H op t (pQ x||pQ y) (br P tm' x) (br P tm' y)=ah P H op t (pQ x||pQ y) (br P tm x) (br P tm y);rw[h x (by simp[Op.operands]),h y (by simp[Op.operands])]
 | build t ps=>
   simp only[ho]at h;show aC P t (parts P tm' ps.toList)=aC P t (parts P tm ps.toList);rw[ji ps.toList (λp hp=>h p.2 (by
    show p.2∈((ps.toList.map (·.2)).toArray).toList;simp only[List.toList_toArray];exact List.mem_map.2 ⟨p,hp,rfl⟩))]
 | makeInterface t x=>simp only[ho]at h;show h_ P t (br P tm' x)=h_ P t (br P tm x);rw[h x (by simp[Op.operands])]
 | unOp op _ x=>simp only[ho]at h;show jZ P op (br P tm' x)=jZ P op (br P tm x);rw[h x (by simp[Op.operands])]
 | _=>rfl
theorem xW {o:Oper}(h:kJ o.op=false):rd P H' tm o=rd P H tm o:=by
 unfold rd;cases ho:o.op with
 | load t x=>rw[ho]at h;cases h
 | slice t x lo hi mx=>rw[ho]at h;cases h
 | lookup t m k ok=>rw[ho]at h;cases h
 | convert s d x=>rw[ho]at h;cases h
 | binOp op t x y yt=>rw[ho]at h;cases h
 | _=>rfl
theorem pY {ops:Array Oper}{o:Oper}(h:∀p,o.guard=some p->∀d,gN ops p.1=some d->tm'.get (bits d)=tm.get (bits d)):bF tm' ops o=bF tm ops o:=by
 unfold bF;split
 . rfl
 . rename_i p hp;cases hd:gN ops p.1 with
   | none=>rfl
   | some d=>
     show jb tm' d p.2=jb tm d p.2;unfold jb;rw[h p hp d hd]
theorem oF {eq:Value->Value->Bool}(h:∀a b,eq a b=true->a=b):∀(l m:List Value),B6 eq l m=true->l=m
 | [],[],_=>rfl
 | a::l,b::m,q=>by
   simp only[B6,Bool.and_eq_true]at q;rw[h a b q.1,oF h l m q.2]
 | [],_::_,q=>by cases q
 | _::_,[],q=>by cases q
theorem oG:∀(n:Nat) (v w:Value),Ba n v w=true->v=w
 | 0,_,_,h=>by cases h
 | n+1,v,w,h=>by
   have ih:=oG n;unfold Ba at h;split at h
   all_goals first
    | (cases h;done)
    | rfl
    | (simp only[Bool.and_eq_true,beq_iff_eq,decide_eq_true_eq]at h;simp_all;done)
    | (simp only[Bool.and_eq_true,beq_iff_eq]at h;rw[h.1,ih _ _ h.2];done)
    | (rename_i a b;have:=oF ih _ _ h;rw[Array.toList_inj]at this;rw[this];done)
theorem Bq {v w:Value}(h:eX v w=true):v=w:=by
 unfold eX at h;simp only[Bool.or_eq_true,decide_eq_true_eq]at h;exact h.elim (oG 4 v w) id
theorem bf (v:Value):eX v v=true:=by unfold eX;simp
def oH (ops:Array Oper):List Nat->Prop
 | []=>True
 | i::l=>(∃o,ops[i]? = some o/\∀e∈o.after,Region.binds .any e=true->e.on∉i::l)/\i∉l/\oH ops l
theorem filter_lt {α:Type}(p q:α->Bool)(hpq:∀x,q x=true->p x=true):∀(l:List α) (x:α),x∈l->p x=true->q x=false->(l.filter q).length<(l.filter p).length
 | [],x,h,_,_=>by cases h
 | y::l,x,h,hp,hq=>by
   have hle:(l.filter q).length<=(l.filter p).length:=by
    clear h
    induction l with
    | nil=>simp
    | cons z l ih=>
      by_cases hqz:q z=true
      . rw[List.filter_cons_of_pos hqz,List.filter_cons_of_pos (hpq z hqz)];simp only[List.length_cons];omega
      . rw[List.filter_cons_of_neg hqz]
        by_cases hpz:p z=true
        . rw[List.filter_cons_of_pos hpz];simp only[List.length_cons];omega
        . rw[List.filter_cons_of_neg hpz];exact ih
   by_cases hyx:y=x
   . subst hyx;simp[hp,hq];omega
   . have hx:x∈l:=by
      cases h with
      | head=>exact absurd rfl hyx
      | tail _ h=>exact h
     have ih:=filter_lt p q hpq l x hx hp hq
     by_cases hqy:q y=true
     . simp[hqy,hpq y hqy];exact ih
     . by_cases hpy:p y=true
       . simp[hqy,hpy];omega
       . simp[hqy,hpy];exact ih
def Mr (ops:Array Oper)(listed:Array Bool):List Nat:=(List.range ops.size).filter λi=> !listed.getD i true
theorem J1 (ops:Array Oper)(hac:acyclic ops=true):∀(fuel t:Nat) (listed:Array Bool),listed.size=ops.size->(Mr ops listed).length<=fuel->
 oH ops (Region.linearise.go .any ops fuel t listed [])/\(∀i∈Region.linearise.go .any ops fuel t listed [],listed.getD i true=false)/\
 (∀i,i<ops.size->listed.getD i true=false->i∈Region.linearise.go .any ops fuel t listed []):=by
 intro fuel
 induction fuel with
 | zero=>
   intro t listed _ hu;refine⟨trivial,λi hi=>by simp[Region.linearise.go]at hi,λi hi hl=> ?_⟩;have:i∈Mr ops listed:=List.mem_filter.2 ⟨List.mem_range.2 hi,by simp only[hl];rfl⟩;have:=List.length_pos_of_mem this;omega
 | succ fuel ih=>
   intro t listed iV hu;simp only[Region.linearise.go];change (oH ops (match(Region.ready .any ops listed)[t % (Region.ready .any ops listed).length]? with
    | some i=>Region.linearise.go .any ops fuel (t/(Region.ready .any ops listed).length) (listed.setIfInBounds i true) [i]
    | none=>[].reverse))/\(∀i∈(match(Region.ready .any ops listed)[t % (Region.ready .any ops listed).length]? with
    | some i=>Region.linearise.go .any ops fuel (t/(Region.ready .any ops listed).length) (listed.setIfInBounds i true) [i]
    | none=>[].reverse),_)/\(∀i,_->_->i∈(match(Region.ready .any ops listed)[t % (Region.ready .any ops listed).length]? with
    | some i=>Region.linearise.go .any ops fuel (t/(Region.ready .any ops listed).length) (listed.setIfInBounds i true) [i]
    | none=>[].reverse))
   cases hi:(Region.ready .any ops listed)[t % (Region.ready .any ops listed).length]? with
   | none=>
     have hnil:Region.ready .any ops listed=[]:=by
      cases hr:Region.ready .any ops listed with
      | nil=>rfl
      | cons x xs=>
        rw[hr]at hi;have hlt:t % (x::xs).length<(x::xs).length:=Nat.mod_lt _ (by simp);rw[List.getElem?_eq_getElem hlt]at hi;cases hi
     refine⟨trivial,λi h=>by simp at h,?_⟩;have key:∀n i,i<n->i<ops.size->listed.getD i true=true:=by
      intro n
      induction n with
      | zero=>intro i h;omega
      | succ n ihn=>
        intro i h hisz;cases hl:listed.getD i true with
        | true=>rfl
        | false=>
          exfalso;have:i∈Region.ready .any ops listed:=mem_ready.2 ⟨hl,ops[i],Array.getElem?_eq_getElem hisz,λe he hb=>by
           have h1:=List.all_eq_true.1 hac i (List.mem_range.2 hisz);rw[Array.getElem?_eq_getElem hisz]at h1;have h2:=List.all_eq_true.1 h1 e (by simpa using he);simp only[hb,Bool.not_true,Bool.false_or]at h2;have h3:=dJ h2;have h4:=ihn e.on (by omega) (by omega);simpa[Array.getD,show e.on<listed.size by omega]using h4⟩
          rw[hnil]at this;cases this
     intro i hisz hl;rw[key (i+1) i (by omega) hisz]at hl;cases hl
   | some i=>
     have hmem:=List.mem_of_getElem? hi;obtain⟨hl,o,ho,hdeps⟩:=mem_ready.1 hmem;have hisz:i<ops.size:=(Array.getElem?_eq_some_iff.1 ho).1;simp only[];rw[linearise_go_acc,List.reverse_singleton,List.singleton_append];have hset:∀j,j≠i->(listed.setIfInBounds i true).getD j true=listed.getD j true:=λj hj=>getD_set_ne true (Ne.symm hj);have hseti:(listed.setIfInBounds i true).getD i true=true:=by
      simp[Array.getD,show i<listed.size by omega]
     have hlt:(Mr ops (listed.setIfInBounds i true)).length<(Mr ops listed).length:=by
      refine filter_lt _ _ (λx hx=> ?_) _ i (List.mem_range.2 hisz) (by simp only[hl];rfl) (by simp only[hseti];rfl)
      by_cases hxi:x=i
      . subst hxi;rw[hseti]at hx;cases hx
      . rw[hset x hxi]at hx;exact hx
     obtain⟨h1,h2,h3⟩:=ih (t/(Region.ready .any ops listed).length) (listed.setIfInBounds i true) (by simp[iV]) (by omega);have hni:i∉Region.linearise.go .any ops fuel (t/(Region.ready .any ops listed).length) (listed.setIfInBounds i true) []:=λq=>by
      have:=h2 i q;rw[hseti]at this;cases this
     refine⟨⟨⟨o,ho,λe he hb q=> ?_⟩,hni,h1⟩,λj hj=> ?_,λj hj hlj=> ?_⟩
     . have h4:=hdeps e he hb;rcases List.mem_cons.1 q with q | q
       . rw[q]at h4;have h5:=hl;simp only[Array.getD]at h4 h5;split at h4<;>simp_all
       . have h5:=h2 e.on q
         by_cases hei:e.on=i
         . rw[hei,hseti]at h5;cases h5
         . rw[hset _ hei]at h5;simp only[Array.getD]at h4 h5;split at h4<;>simp_all
     . cases hj with
       | head=>exact hl
       | tail _ hj=>
         have h5:=h2 j hj
         by_cases hji:j=i
         . subst hji;exact hl
         . rw[hset _ hji]at h5;exact h5
     . by_cases hji:j=i
       . subst hji;simp
       . exact List.mem_cons_of_mem _ (h3 j hj (by rw[hset _ hji];exact hlj))
theorem Br (ops:Array Oper)(hac:acyclic ops=true)(t:Nat):oH ops (Region.schedule true ops t)/\∀i,i<ops.size->i∈Region.schedule true ops t:=by
 have hrep:∀i,i<ops.size->(Array.replicate ops.size false).getD i true=false:=λi hi=>by simp[Array.getD,hi]
 have h:=J1 ops hac ops.size t (Array.replicate ops.size false) (by simp) (by
  unfold Mr;exact Nat.le_trans (List.length_filter_le _ _) (by simp))
 have e:Region.schedule true ops t=Region.linearise.go .any ops ops.size t (Array.replicate ops.size false) []:=rfl;rw[e];exact⟨h.1,λi hi=>h.2.2 i hi (hrep i hi)⟩
end
end
end Go.Ev
namespace Go.Ev
open Go.RowKit (Below)
noncomputable section
set_option maxRecDepth 100000
set_option linter.unusedVariables false
set_option linter.unusedSimpArgs false
section
variable {P:Program}{W w:World}{φ:bZ}{H:T OB}{tm:T Value}{tmps:Array Value}{ops:Array Oper}
structure FB where
 fn:FuncId
 kind:CallKind
 ds:List Deferred
def cQ (b:FB)(tmps:Array Value)(todo:List Item):Frame:={ fn:=b.fn,tmps,todo,defers:=b.ds,mode:= .run,kind:=b.kind }
def c_ (tmps:Array Value):Operand->Value:=Act.eval ⟨tmps,[]⟩
theorem uz (tmps:Array Value)(ds:List Deferred):Act.eval ⟨tmps,ds⟩=c_ tmps:=by funext x;cases x<;>rfl
def gU (tmps:Array Value)(dst:Option Tmp)(v:Value):Array Value:=match dst with
 | some d=>tmps.setIfInBounds d v
 | none=>tmps
theorem Ct (tmps:Array Value)(ds:List Deferred)(dst:Option Tmp)(v:Value):(Act.put ⟨tmps,ds⟩ dst v)=⟨gU tmps dst v,ds⟩:=by cases dst<;>rfl
theorem dw (tmps:Array Value)(dst:Option Tmp)(v:Value):(gU tmps dst v).size=tmps.size:=by cases dst<;>simp[gU]
section steps
variable {fn:FB}{i:Nat}{rest:List Nat}{k:List Item}{cs:List Frame}{w':World}{o:Oper}
theorem kl (ho:ops[i]? = some o)(v:Value):(cQ fn tmps (.inRegion ops (i::rest)::k)).finish v=cQ fn (gU tmps o.dst v) (.inRegion ops rest::k):=by
 have:=Frame.finish_at (cQ fn #[] []) ⟨tmps,fn.ds⟩ ops i rest k v;rw[ho]at this;rw[show((some o:Option Oper).bind (·.dst))=o.dst from rfl,Ct]at this;exact this
theorem wz (ho:ops[i]? = some o)(hw:Region.wanted o (yielded ops tmps)=true):
 stepG P true { frame:=cQ fn tmps (.inRegion ops (i::rest)::k),callers:=cs,status:= .running,dying:=none } w=
  stepG.apply P true (cQ fn tmps (.inRegion ops (i::rest)::k)) cs none (execOp (c_ tmps) o) w:=by
 have:=stepG_op (P:=P) (b:=cQ fn #[] []) (a:=⟨tmps,fn.ds⟩) (cs:=cs) (w:=w) (k:=k) (rest:=rest) ho hw;rw[uz]at this;exact this
theorem dL (ho:ops[i]? = some o)(hw:Region.wanted o (yielded ops tmps)=true){v:Value}(hr:(execOp (c_ tmps) o).run P w= .ok (.value v) w'):
 step P (lone (cQ fn tmps (.inRegion ops (i::rest)::k)) cs w)= .next (lone (cQ fn (gU tmps o.dst v) (.inRegion ops rest::k)) cs w'):=
 step_lone_go (by rw[wz ho hw,<- kl ho];simp[stepG.apply,hr])
theorem oI (ho:ops[i]? = some o)(hw:Region.wanted o (yielded ops tmps)=true)(hr:(execOp (c_ tmps) o).run P w= .ok .skip w'):
 step P (lone (cQ fn tmps (.inRegion ops (i::rest)::k)) cs w)= .next (lone (cQ fn (gU tmps o.dst undef) (.inRegion ops rest::k)) cs w'):=
 step_lone_go (by rw[wz ho hw,<- kl ho];simp[stepG.apply,hr])
theorem iq (ho:ops[i]? = some o)(hw:Region.wanted o (yielded ops tmps)=true){f:FuncId}{args:Array Value}(hr:(execOp (c_ tmps) o).run P w= .ok (.enter f args) w'):
 step P (lone (cQ fn tmps (.inRegion ops (i::rest)::k)) cs w)=
  .next (lone (Frame.enter P f args .normal) (cQ fn tmps (.inRegion ops (i::rest)::k)::cs) w'):=
 step_lone_go (by rw[wz ho hw];simp[stepG.apply,hr,cQ])
theorem Cu (ho:ops[i]? = some o)(hw:Region.wanted o (yielded ops tmps)=true){d:Deferred}(hr:(execOp (c_ tmps) o).run P w= .ok (.defer d) w'):
 step P (lone (cQ fn tmps (.inRegion ops (i::rest)::k)) cs w)= .next (lone (cQ ⟨fn.fn,fn.kind,d::fn.ds⟩ (gU tmps o.dst undef) (.inRegion ops rest::k)) cs w'):=
 step_lone_go (by
  rw[wz ho hw,<- kl (fn:=⟨fn.fn,fn.kind,d::fn.ds⟩) ho];simp only[stepG.apply,Sem.runT_eq,hr,GStep.bare_after];rfl)
theorem uA (ho:ops[i]? = some o)(hw:Region.wanted o (yielded ops tmps)=true){v:Value}(hr:(execOp (c_ tmps) o).run P w= .halt (.panic v) w'):
 step P (lone (cQ fn tmps (.inRegion ops (i::rest)::k)) cs w)= .next (lone { cQ fn tmps (.inRegion ops (i::rest)::k)with mode:= .panicking [{ v,recovered:=false }] } cs w'):=
 step_lone_go (by
  rw[wz ho hw];simp only[stepG.apply,Sem.runT_eq,hr,GStep.bare_after];rfl)
theorem pZ (ho:ops[i]? = some o)(hw:Region.wanted o (yielded ops tmps)=true)(hr:(execOp (c_ tmps) o).run P w= .ok .recover w')
 (ht:tryRecover (cQ fn tmps (.inRegion ops (i::rest)::k)) cs=none):
 step P (lone (cQ fn tmps (.inRegion ops (i::rest)::k)) cs w)= .next (lone (cQ fn (gU tmps o.dst .nilIface) (.inRegion ops rest::k)) cs w'):=
 step_lone_go (by
  rw[wz ho hw,<- kl ho];have ht':tryRecover { fn:=fn.fn,tmps,todo:= .inRegion ops (i::rest)::k,defers:=fn.ds,mode:= .run,kind:=fn.kind } cs=none:=ht;simp[stepG.apply,hr,cQ,ht'])
theorem p4 (ho:ops[i]? = some o)(hw:Region.wanted o (yielded ops tmps)=true)(hr:(execOp (c_ tmps) o).run P w= .ok .recover w'){v:Value}{cs':List Frame}
 (ht:tryRecover (cQ fn tmps (.inRegion ops (i::rest)::k)) cs=some (v,cs')):
 step P (lone (cQ fn tmps (.inRegion ops (i::rest)::k)) cs w)= .next (lone (cQ fn (gU tmps o.dst v) (.inRegion ops rest::k)) cs' w'):=
 step_lone_go (by
  rw[wz ho hw,<- kl ho];have ht':tryRecover { fn:=fn.fn,tmps,todo:= .inRegion ops (i::rest)::k,defers:=fn.ds,mode:= .run,kind:=fn.kind } cs=some (v,cs'):=ht;simp[stepG.apply,hr,cQ,ht'])
theorem oJ (ho:ops[i]? = some o)(hw:Region.wanted o (yielded ops tmps)=false):
 step P (lone (cQ fn tmps (.inRegion ops (i::rest)::k)) cs w)= .next (lone (cQ fn (gU tmps o.dst undef) (.inRegion ops rest::k)) cs w):=by
 have:=step_op_skip (P:=P) (b:=cQ fn #[] []) (a:=⟨tmps,fn.ds⟩) (k:=k) (cs:=cs) (w:=w) (ops:=ops) (i:=i) (rest:=rest) (by simp[ho,hw]);rw[ho,show((some o:Option Oper).bind (·.dst))=o.dst from rfl,Ct]at this;exact this
end steps
def uB (φ:bZ)(M:Nat->Prop)(tm:T Value)(tmps:Array Value):Prop:=∀t v,tm.get (bits t)=some v->M t\/∃v',tmps[t]? = some v'/\VR φ v v'
theorem uB.mono {ψ:bZ}{M:Nat->Prop}(hle:φ.le ψ)(h:uB φ M tm tmps):uB ψ M tm tmps:=λt v q=>(h t v q).imp id λ⟨v',a,b⟩=>⟨v',a,b.mono hle⟩
theorem rH {M:Nat->Prop}(hG:∀g,g<P.globals.size->∃e:fp,φ[g]? = some (some e)/\e.r=g)(h:uB φ M tm tmps){l:List Operand}(hl:∀t,Operand.tmp t∈l->¬M t):lJ P φ tm (c_ tmps) l:=by
 intro x hx v hv;cases x with
 | tmp t=>
   rcases h t v hv with q | ⟨v',h1,h2⟩
   . exact absurd q (hl t hx)
   . have:c_ tmps (.tmp t)=v':=by
      simp only[c_,Act.eval,Array.getD_eq_getD_getElem?,h1,Option.getD_some]
     rw[this];exact h2
 | const c=>
   have hv:(bif flat c then some c else none)=some v:=hv;obtain⟨h1,h2⟩:=aS hv;cases h2;exact .flat _ h1
 | global g=>
   obtain⟨h1,h2⟩:=aS (show(bif Nat.blt g P.globals.size then some (Value.pointer (some ⟨g,0,none⟩))else none)=some v from hv);cases h2;obtain⟨e,h3,h4⟩:=hG g (dJ h1);have:c_ tmps (.global g)= .pointer (some ⟨e.r,0,none⟩):=by rw[h4];rfl
   rw[this];exact .ptr h3
 | func f=>cases hv;exact .flat _ rfl
theorem lY {M:Nat->Prop}(h:uB φ M tm tmps){o:Oper}(hl:∀p,o.guard=some p->∀d,gN ops p.1=some d->¬M d){b:Bool}
 (hw:bF tm ops o=some b):Region.wanted o (yielded ops tmps)=b:=by
 unfold bF at hw;unfold Region.wanted;split at hw
 . rename_i hg;rw[hg];cases hw;rfl
 . rename_i p hg;obtain⟨j,want⟩:=p;rw[hg];obtain⟨d,hd,hy⟩:=aD hw;have hM:=hl (j,want) hg d hd;have hd':(ops[j]?).bind (·.dst)=some d:=by
    unfold gN at hd;cases hj:ops[j]? with
    | none=>rw[hj]at hd;cases hd
    | some q=>rw[hj]at hd;exact hd
   show(yielded ops tmps j == some want)=b;unfold jb at hy;split at hy
   . rename_i x hx;cases hy;rcases h d _ hx with q | ⟨v',h1,h2⟩
     . exact absurd q hM
     . have:=h2.aB rfl;subst this;have e:yielded ops tmps j=some x:=by
        unfold yielded;rw[hd'];simp only[Option.bind_some,h1]
       rw[e];cases x<;>cases want<;>rfl
   . rename_i c hx;cases hy;rcases h d _ hx with q | ⟨v',h1,h2⟩
     . exact absurd q hM
     . obtain⟨c',rfl,_⟩:=h2.ql;have e:yielded ops tmps j=none:=by
        unfold yielded;rw[hd'];simp only[Option.bind_some,h1]
       rw[e];rfl
   . cases hy
def bU (tm:T Value)(dst:Option Tmp)(v:Value):T Value:=match dst with
 | some d=>set tm (bits d) (some v)
 | none=>tm
theorem er (tm:T Value)(dst:Option Tmp)(v:Value)(t:Nat):(bU tm dst v).get (bits t)=if dst=some t then some v else tm.get (bits t):=by
 cases dst with
 | none=>rfl
 | some d=>
   show(set tm (bits d) (some v)).get (bits t)=_;rw[get_at]
   by_cases h:t=d
   . subst h;simp
   . rw[if_neg h,if_neg (by simp;exact λq=>h q.symm)]
theorem lZ (tm:T Value)(dst:Option Tmp)(v:Value)(x:Operand)(h:∀d,dst=some d->x ≠ .tmp d):br P (bU tm dst v) x=br P tm x:=by
 cases x with
 | tmp t=>
   show(bU tm dst v).get (bits t)=tm.get (bits t);rw[er,if_neg (λq=>h t q rfl)]
 | _=>rfl
theorem uC {tmps:Array Value}{dst:Option Tmp}{v:Value}{t:Nat}(h:∀d,dst=some d->d<tmps.size):
 (gU tmps dst v)[t]? = if dst=some t then some v else tmps[t]? := by
 cases dst with
 | none=>rfl
 | some d=>
   show(tmps.setIfInBounds d v)[t]? = _
   by_cases ht:d=t
   . subst ht;rw[Array.getElem?_setIfInBounds_self_of_lt (h d rfl)];simp
   . rw[Array.getElem?_setIfInBounds_ne ht,if_neg (by simpa using ht)]
theorem uB.put {M M':Nat->Prop}(h:uB φ M tm tmps){dst:Option Tmp}{v v':Value}(hd:∀d,dst=some d->d<tmps.size)(hv:VR φ v v')(hM:∀t,M t->dst≠some t->M' t):
 uB φ M' (bU tm dst v) (gU tmps dst v'):=by
 intro t u hu;rw[er]at hu;rw[uC hd]
 by_cases ht:dst=some t
 . rw[if_pos ht]at hu ⊢;cases hu;exact .inr ⟨v',rfl,hv⟩
 . rw[if_neg ht]at hu ⊢;exact(h t u hu).imp (λq=>hM t q ht) id
def Ms (P:Program)(tm:T Value)(o:Op)(e:TypeId)(l:List Value)(mk:Nat->Value):Prop:=
 (o= .alloc e/\bE P e=some l/\mk=iN)\/
 (∃(t:TypeId) (len:Nat) (ps:Array (Nat×Operand)) (vs:List (Nat×Value)) (s:Nat) (z:List Value) (cells:Array Value),o= .buildSlice t len ps/\parts P tm ps.toList=some vs/\P.underlying t=some (.slice e)/\a6 P e=some s/\bE P e=some z/\
  (Nat.ble (len*s) 16777216&&Nat.blt 0 (len*s)&&Nat.blt 0 z.length)=true/\Instr.fill (λi=>some (i*s,s)) (bz z (len*s)) vs=some cells/\l=cells.toList/\mk=λnx=> .slice (some ⟨nx,0,none⟩) len len)
theorem Mt {o:Oper}{nx:Nat}{H':T OB}(hal:nY o.op=true){v:Value}{nx':Nat}(h:ef P H nx tm o= .val v H' nx'):∃e l mk,Ms P tm o.op e l mk/\v=mk nx/\H'=set H (bits nx) (some (cu l e))/\nx'=nx+1:=by
 unfold ef at h;split at h
 . rename_i e he;unfold aA at h;obtain⟨l,hz,h⟩:=bP h;rw[dD]at h;cases h;exact⟨e,l,iN,.inl ⟨he,hz,rfl⟩,rfl,rfl,rfl⟩
 . rename_i he;rw[he]at hal;cases hal
 . rename_i he;rw[he]at hal;cases hal
 . rename_i t len ps he;unfold aq at h;obtain⟨vs,hvs,h⟩:=bP h;obtain⟨e,s,hu,hs,h⟩:=gh h;obtain⟨z,hz,h⟩:=bP h;obtain⟨hc,h⟩:=cD h;obtain⟨cells,hf,h⟩:=bP h;rw[dD,a5]at h;cases h;exact⟨e,_,_,.inr ⟨t,len,ps,vs,s,z,cells,he,hvs,hu,hs,hz,hc,hf,rfl,rfl⟩,rfl,rfl,rfl⟩
 all_goals first
  | (rename_i he;rw[he]at hal;cases hal)
  | cases h
theorem J2 {o:Oper}{ρ:Operand->Value}{e:TypeId}{l:List Value}{mk:Nat->Value}(hE:lJ P φ tm ρ o.op.operands.toList)(h:Ms P tm o.op e l mk):
 ∃(l':List Value) (mk':Addr->Value),LR φ l l'/\(execOp ρ o).run P w= .ok (.value (mk' ⟨w.heap.size,0,none⟩)) (w.alloc (.cells l'.toArray e))/\∀(ψ:bZ) (k:Nat) (en:fp),ψ[k]? = some (some en)->VR ψ (mk k) (mk' ⟨en.r,0,none⟩):=by
 rcases h with⟨ho,hz,rfl⟩ | ⟨t,len,ps,vs,s,z,cells,ho,hvs,hu,hs,hz,hc,hf,rfl,rfl⟩
 . obtain⟨i,z,hi',hz',hl,hfl⟩:=eY hz;refine⟨l,λa=> .pointer (some a),LR.of_flat hfl,?_,fun ψ k en hk=> .ptr hk⟩;have hrun:(execOp ρ o).run P w= .ok (.value (.pointer (some ⟨w.heap.size,0,none⟩))) (w.alloc (.cells z.cells e)):=by
    simp[execOp,ho,Instr.alloc,zeroValue,typeInfo,hi',hz',newVar,newRow]
   rw[hrun,<- hl]
 . simp only[Bool.and_eq_true]at hc;have h1:=cg hc.1.1;have h2:=dJ hc.1.2;obtain⟨i,z',hi,hz',hl,hfl⟩:=eY hz;have hp:PR φ vs (ps.toList.map λp=>(p.1,ρ p.2)):=kP ps.toList vs (λp hp=>hE p.2 (by
    rw[ho];show p.2∈((ps.toList.map (·.2)).toArray).toList;exact List.mem_map.2 ⟨p,hp,rfl⟩)) hvs
   obtain⟨cells',hf',hLR⟩:=nd (λi=>some (i*s,s)) hp _ (bz z (len*s)) cells (LR.of_flat (kS hfl _)) hf;refine⟨cells'.toList,λa=> .slice (some a) len len,hLR,?_,fun ψ k en hk=> .slice hk (.inl ⟨?_,rfl⟩)⟩
   . have hzc:z.toArray=z'.cells:=by rw[<- hl]
     have hf'':Instr.fill (λi=>some (i*s,s)) (Array.map (λx=>z'.cells[x%z'.cells.size]!) (Array.range (len*s))) (ps.toList.map λp=>(p.1,ρ p.2))=some cells':=by
      rw[<- hzc];exact hf'
     have e24:(2:Nat)^24=16777216:=by decide
     have hne:¬(len*s>2^24):=by rw[e24];omega
     have hne0:¬(len*s=0):=by omega
     simp only[execOp,ho,Instr.buildSlice,Sem.run_bind,bh hu,Result.andThen_ok,bO hs,if_neg hne,if_neg hne0,Sem.run_pure];have hzr:(zeroValue e).run P w= .ok z' w:=by simp[zeroValue,typeInfo,hi,hz']
     simp[hzr,hf'',newRow]
   . have:len<=len*s:=Nat.le_mul_of_pos_right len (Nat.pos_of_ne_zero (λq=>by rw[q]at h2;simp at h2));unfold dP;omega
theorem qz {tm tm':T Value}{o:Op}{e:TypeId}{l:List Value}{mk:Nat->Value}(hx:∀x∈o.operands.toList,br P tm' x=br P tm x)(h:Ms P tm o e l mk):Ms P tm' o e l mk:=by
 rcases h with h | ⟨t,len,ps,vs,s,z,cells,ho,hvs,h⟩
 . exact .inl h
 . refine .inr ⟨t,len,ps,vs,s,z,cells,ho,?_,h⟩;rw[<- hvs];refine ji _ λp hp=>hx p.2 ?_;rw[ho];show p.2∈((ps.toList.map (·.2)).toArray).toList;exact List.mem_map.2 ⟨p,hp,rfl⟩
def uD (P:Program)(φ:bZ)(H:T OB)(tm:T Value)(ops:Array Oper)(κ:Nat->Nat)(lo hi:Nat)(p:Nat)(o:Oper):Prop:=
 (bF tm ops o=some false/\∀d,o.dst=some d->tm.get (bits d)=some undef)\/
 (bF tm ops o=some true/\vY o.op=true/\∃u,(∀d,o.dst=some d->tm.get (bits d)=some u)/\(kJ o.op=false->rd P H tm o=some u))\/
 (bF tm ops o=some true/\nY o.op=true/\∃e l mk,Ms P tm o.op e l mk/\φ[κ p]? = some none/\hp H (κ p)=some (cu l e)/\lo<=κ p/\κ p<hi/\
  ∀d,o.dst=some d->tm.get (bits d)=some (mk (κ p)))
def Mask (ops:Array Oper)(done π:List Nat)(t:Nat):Prop:=∃p,p∈π/\p∈done/\gN ops p=some t
structure ec (P:Program)(φ:bZ)(H:T OB)(tm:T Value)(tmps:Array Value)(ops:Array Oper)(done g9:List Nat)(pl:List (Nat×List Nat))(π:List Nat)(κ:Nat->Nat)(lo hi:Nat):Prop where
 sa:pS ops=true
 ac:acyclic ops=true
 Bs:eW ops (ic ops) done g9 pl=true
 Fb:oH ops π
 todo:∀i,i<ops.size->i∉done->i∈π
 closed:∀i,i∉π->∀o,ops[i]? = some o->∀e∈o.after,Region.binds .any e=true->e.on∉π
 ready:∀i,i∈done->∀o,ops[i]? = some o->dA ops done o=true
 tr:uB φ (Mask ops done π) tm tmps
 FC:∀i o d,ops[i]? = some o->o.dst=some d->i∈done->d<tmps.size
 prom:∀p,p∈π->p∈done->∀o,ops[p]? = some o->uD P φ H tm ops κ lo hi p o
 g9:∀p,p∈π->p∈done->∀o,ops[p]? = some o->kJ o.op=true->p∈g9
 inj:∀p q,p∈π->p∈done->q∈π->q∈done->∀o o',ops[p]? = some o->ops[q]? = some o'->nY o.op=true->nY o'.op=true->
  bF tm ops o=some true->bF tm ops o'=some true->κ p=κ q->p=q
 own:∀p,p∈π->p∈done->p∉iO ops
def jj (P:Program)(H:T OB)(tm:T Value)(ops:Array Oper)(done π:List Nat):Prop:=
 ∀p,p∈π->p∈done->∀o,ops[p]? = some o->kJ o.op=true->bF tm ops o=some true->∃u,rd P H tm o=some u/\∀d,o.dst=some d->tm.get (bits d)=some u
theorem fL {o:Oper}{j:Nat}:direct o j=true↔∃e∈o.after,Region.binds .any e=true/\e.on=j:=by
 unfold direct;rw[List.any_eq_true];constructor
 . rintro⟨e,he,h⟩;simp only[Bool.and_eq_true,beq_iff_eq]at h;exact⟨e,by simpa using he,h.1,h.2⟩
 . rintro⟨e,he,h1,h2⟩;exact⟨e,by simpa using he,by simp[h1,h2]⟩
theorem uE (hs:pS ops=true){i j:Nat}{o q:Oper}{d:Tmp}(hi:ops[i]? = some o)(hj:ops[j]? = some q)(hd:q.dst=some d)(hl:d∈o.looksAt ops):direct o j=true\/direct q i=true:=by
 have h1:=List.all_eq_true.1 hs i (List.mem_range.2 (Array.getElem?_eq_some_iff.1 hi).1);have h2:=List.all_eq_true.1 h1 j (List.mem_range.2 (Array.getElem?_eq_some_iff.1 hj).1);simp only[hi,hj,hd,Bool.and_eq_true,Bool.or_eq_true,Bool.not_eq_true']at h2;rcases h2.1 with(h3 | h3) | h3
 . have h4:(o.looksAt ops).contains d=true:=by simpa using hl
   rw[h3]at h4;cases h4
 . exact .inl h3
 . exact .inr h3
theorem uF {i j:Nat}(hn:j∉iO ops){o q:Oper}{d:Tmp}(hi:ops[i]? = some o)(hj:ops[j]? = some q)(hd:q.dst=some d)(hl:d∈o.looksAt ops):direct o j=true:=by
 cases h:direct o j with
 | true=>rfl
 | false=>
   refine absurd ?_ hn;unfold iO;rw[List.mem_filter];refine⟨List.mem_range.2 (Array.getElem?_eq_some_iff.1 hj).1,?_⟩;simp only[hj,hd];rw[List.any_eq_true];refine⟨i,List.mem_range.2 (Array.getElem?_eq_some_iff.1 hi).1,?_⟩;simp only[hi,h];have h4:(o.looksAt ops).contains d=true:=by simpa using hl
   rw[h4];rfl
theorem J3 (hs:pS ops=true){i j:Nat}{o q:Oper}{d:Tmp}(hi:ops[i]? = some o)(hj:ops[j]? = some q)(hd:q.dst=some d)(hne:i≠j):o.dst≠some d:=by
 have h1:=List.all_eq_true.1 hs i (List.mem_range.2 (Array.getElem?_eq_some_iff.1 hi).1);have h2:=List.all_eq_true.1 h1 j (List.mem_range.2 (Array.getElem?_eq_some_iff.1 hj).1);simp only[hi,hj,hd,Bool.and_eq_true,Bool.or_eq_true,Bool.not_eq_true',beq_iff_eq,bne_iff_ne]at h2;exact h2.2.resolve_left hne
theorem jk {o:Oper}{t:Nat}(h:Operand.tmp t∈o.op.operands.toList):t∈o.looksAt ops:=by
 unfold Oper.looksAt;exact List.mem_append_left _ (List.mem_filterMap.2 ⟨.tmp t,h,rfl⟩)
theorem jl {o:Oper}{p:Nat×Bool}{d:Tmp}(hg:o.guard=some p)(hd:gN ops p.1=some d):d∈o.looksAt ops:=by
 unfold Oper.looksAt;refine List.mem_append_right _ ?_;obtain⟨j,b⟩:=p;rw[hg];have hd':(ops[j]?).bind (·.dst)=some d:=by
  unfold gN at hd;cases hj:ops[j]? with
  | none=>rw[hj]at hd;cases hd
  | some q=>rw[hj]at hd;exact hd
 simp only[hd',Option.toList_some,List.mem_singleton]
theorem oK {ops:Array Oper}{p t:Nat}(h:gN ops p=some t):∃q,ops[p]? = some q/\q.dst=some t:=by
 unfold gN at h;cases hj:ops[p]? with
 | none=>rw[hj]at h;cases h
 | some q=>rw[hj]at h;exact⟨q,rfl,h⟩
theorem jK {q:Nat}{π:List Nat}(hlin:oH ops (q::π)){done:List Nat}(hown:∀p,p∈q::π->p∈done->p∉iO ops){o:Oper}(ho:ops[q]? = some o){t:Nat}(ht:t∈o.looksAt ops):¬Mask ops done (q::π) t:=by
 rintro⟨p,hp,hpd,hd⟩;obtain⟨oq,h1,h2⟩:=oK hd;have h3:=fL.1 (uF (hown p hp hpd) ho h1 h2 ht);obtain⟨e,he,hb,hon⟩:=h3;obtain⟨⟨o',ho',hdeps⟩,_⟩:=hlin;rw[ho]at ho';cases ho';exact hdeps e he hb (by rw[hon];exact hp)
section
variable {done g9:List Nat}{pl:List (Nat×List Nat)}{π:List Nat}{κ:Nat->Nat}{lo hi:Nat}{fn:FB}{k:List Item}{cs:List Frame}
theorem xX {op:Op}(h:nY op=true):vY op=false:=by
 cases op<;>first | rfl | cases h
theorem FE {op:Op}(h:nY op=true):kJ op=false:=by
 cases op<;>first | rfl | cases h
theorem Cv {j:Nat}(h:j∉ic ops):j∉iO ops:=λq=>h (by
 unfold ic;split
 . exact List.mem_append_left _ q
 . exact q)
theorem Bt (hH:HR P W φ (hp H) w){q:Nat}(hD:ec P φ H tm tmps ops done g9 pl (q::π) κ lo hi)(hL:jj P H tm ops done (q::π))(hq:q∈done):
 ∃φ' tmps' w',step P (lone (cQ fn tmps (.inRegion ops (q::π)::k)) cs w)= .next (lone (cQ fn tmps' (.inRegion ops π::k)) cs w')/\
  φ.le φ'/\HR P W φ' (hp H) w'/\φ'.length=φ.length/\(∀j,j<lo->φ[j]? = some none->φ'[j]? = some none)/\
  ec P φ' H tm tmps' ops done g9 pl π κ lo hi/\jj P H tm ops done π/\tmps'.size=tmps.size:=by
 obtain⟨⟨o,ho,hdeps⟩,hnq,hlin⟩:=hD.Fb;have hop:lJ P φ tm (c_ tmps) o.op.operands.toList:=rH hH.gl hD.tr λt ht=>jK hD.Fb hD.own ho (jk ht);have hgd:∀b,bF tm ops o=some b->Region.wanted o (yielded ops tmps)=b:=λb hb=>lY hD.tr (λp hp d hd=>jK hD.Fb hD.own ho (jl hp hd)) hb;have hd:∀d,o.dst=some d->d<tmps.size:=λd h=>hD.FC q o d ho h hq;have rest:∀(ψ:bZ) (u u':Value),φ.le ψ->(∀d,o.dst=some d->tm.get (bits d)=some u)->VR ψ u u'->
  (∀p,p∈π->p∈done->∀o',ops[p]? = some o'->uD P ψ H tm ops κ lo hi p o')->ec P ψ H tm (gU tmps o.dst u') ops done g9 pl π κ lo hi:=by
  intro ψ u u' hle hu hv hp;refine⟨hD.sa,hD.ac,hD.Bs,hlin,λi hi hn=> ?_,λi hi x hx e he hb=> ?_,hD.ready,λt v hv'=> ?_,λi x d hx hxd hi=>by rw[dw];exact hD.FC i x d hx hxd hi,hp,
   λp hp=>hD.g9 p (List.mem_cons_of_mem _ hp),λp p' hp hpd hp' hpd'=>hD.inj p p' (List.mem_cons_of_mem _ hp) hpd (List.mem_cons_of_mem _ hp') hpd',λp hp hpd=>hD.own p (List.mem_cons_of_mem _ hp) hpd⟩
  . rcases List.mem_cons.1 (hD.todo i hi hn)with h | h
    . subst h;exact absurd hq hn
    . exact h
  . by_cases hiq:i=q
    . subst hiq;rw[ho]at hx;cases hx;exact λh=>hdeps e he hb (List.mem_cons_of_mem _ h)
    . exact λh=>hD.closed i (λh=>(List.mem_cons.1 h).elim hiq hi) x hx e he hb (List.mem_cons_of_mem _ h)
  . rw[uC hd]
    by_cases ht:o.dst=some t
    . rw[if_pos ht];rw[hu t ht]at hv';cases hv';exact .inr ⟨u',rfl,hv⟩
    . rw[if_neg ht];rcases hD.tr t v hv' with⟨p,hp,hpd,hpt⟩ | ⟨v',a,b⟩
      . rcases List.mem_cons.1 hp with h | h
        . subst h;obtain⟨x,hx,hxt⟩:=oK hpt;rw[ho]at hx;cases hx;exact absurd hxt ht
        . exact .inl ⟨p,h,hpd,hpt⟩
      . exact .inr ⟨v',a,b.mono hle⟩
 have hL':jj P H tm ops done π:=λp hp=>hL p (List.mem_cons_of_mem _ hp);have hprom:∀p,p∈π->p∈done->∀o',ops[p]? = some o'->uD P φ H tm ops κ lo hi p o':=λp hp=>hD.prom p (List.mem_cons_of_mem _ hp);rcases hD.prom q (by simp) hq o ho with⟨hw,hu⟩ | ⟨hw,hrd,u,hu,hnl⟩ | ⟨hw,hal,e,l,mk,hz,hk,hkb,jg,hhi,hu⟩
 . exact⟨φ,_,w,oJ ho (hgd _ hw),φ.le_refl,hH,rfl,λ_ _ h=>h,rest φ undef undef φ.le_refl hu (.flat _ rfl) hprom,hL',dw _ _ _⟩
 . have hr:∃u,rd P H tm o=some u/\∀d,o.dst=some d->tm.get (bits d)=some u:=by
    cases hl:kJ o.op with
    | false=>exact⟨u,hnl hl,hu⟩
    | true=>exact hL q (by simp) hq o ho hl hw
   obtain⟨u,hr,hu⟩:=hr;obtain⟨u',hv,hrun⟩:=ow hH hop hr;exact⟨φ,_,w,dL ho (hgd _ hw) hrun,φ.le_refl,hH,rfl,λ_ _ h=>h,rest φ u u' φ.le_refl hu hv hprom,hL',dw _ _ _⟩
 . obtain⟨l',mk',hLR,hrun,hmk⟩:=J2 hop hz;have hob:=rE (P:=P) (W:=W) (w:=w) hLR e e #[] (es:=(a6 P e).getD 0) (λy hy=>by rw[hy];rfl) hH.below;rw[Array.append_empty]at hob;have hb:=hH.bind hk hkb (.cells l'.toArray e) hob;refine⟨_,_,_,dL ho (hgd _ hw) hrun,lW hk _,hb,by simp,λj hj h=> ?_,rest _ (mk (κ q)) _ (lW hk _) hu (hmk _ _ _ (Fz hk _)) ?_,hL',dw _ _ _⟩
   . rw[List.getElem?_set_ne (by omega)];exact h
   . intro p hp hpd o' ho';rcases hprom p hp hpd o' ho' with h | h | ⟨hw',hal',e',l',mk2,hz'',hk',hkb',hlo',hhi',hu'⟩
     . exact .inl h
     . exact .inr (.inl h)
     . refine .inr (.inr ⟨hw',hal',e',l',mk2,hz'',?_,hkb',hlo',hhi',hu'⟩);rw[List.getElem?_set_ne]
       . exact hk'
       . intro heq;have:=hD.inj q p (by simp) hq (List.mem_cons_of_mem _ hp) hpd o o' ho ho' hal hal' hw hw' heq;subst this;exact hnq hp
theorem oL:∀(π:List Nat) (φ:bZ) (tmps:Array Value) (w:World),HR P W φ (hp H) w->ec P φ H tm tmps ops done g9 pl π κ lo hi->jj P H tm ops done π->
 ∃φ' tmps' w' π',Steps P (lone (cQ fn tmps (.inRegion ops π::k)) cs w) (lone (cQ fn tmps' (.inRegion ops π'::k)) cs w')/\
  φ.le φ'/\HR P W φ' (hp H) w'/\φ'.length=φ.length/\(∀j,j<lo->φ[j]? = some none->φ'[j]? = some none)/\
  ec P φ' H tm tmps' ops done g9 pl π' κ lo hi/\jj P H tm ops done π'/\tmps'.size=tmps.size/\(∀q l,π'=q::l->q∉done)
 | [],φ,tmps,w,hH,hD,hL=>⟨φ,tmps,w,[],.refl _ _,φ.le_refl,hH,rfl,λ_ _ h=>h,hD,hL,rfl,λq l h=>by cases h⟩
 | q::π,φ,tmps,w,hH,hD,hL=>by
   by_cases hq:q∈done
   . obtain⟨φ1,tmps1,w1,hs,hle,hH1,hl1,hk1,hD1,hL1,hz1⟩:=Bt (fn:=fn) (k:=k) (cs:=cs) hH hD hL hq;obtain⟨φ2,tmps2,w2,π2,hs2,hle2,hH2,hl2,hk2,hD2,hL2,hz2,hn2⟩:=oL π φ1 tmps1 w1 hH1 hD1 hL1;exact⟨φ2,tmps2,w2,π2,.head hs hs2,bZ.le_trans hle hle2,hH2,hl2.trans hl1,λj hj h=>hk2 j hj (hk1 j hj h),hD2,hL2,hz2.trans hz1,hn2⟩
   . exact⟨φ,tmps,w,q::π,.refl _ _,φ.le_refl,hH,rfl,λ_ _ h=>h,hD,hL,rfl,λq' l h=>by cases h;exact hq⟩
end
end
section
variable {P:Program}{W w:World}{φ φ':bZ}{H H':T OB}{tm:T Value}{tmps:Array Value}{ops:Array Oper}
variable {done g9:List Nat}{pl:List (Nat×List Nat)}{π:List Nat}{κ:Nat->Nat}{lo hi:Nat}
theorem wA {β:Type}{F:Option OB->Option β}(hF:F none=none){b:Nat}{u:β}(hext:∀k ob,hp H k=some ob->hp H' k=some ob)(h:F (H.get (bits b))=some u):H'.get (bits b)=H.get (bits b):=by
 cases hg:H.get (bits b)with
 | none=>rw[hg,hF]at h;cases h
 | some ob=>exact hext b ob hg
theorem uG {F:Option OB->Bool}(hF:F none=false){b:Nat}(hext:∀k ob,hp H k=some ob->hp H' k=some ob)(h:F (H.get (bits b))=true):H'.get (bits b)=H.get (bits b):=by
 cases hg:H.get (bits b)with
 | none=>rw[hg,hF]at h;cases h
 | some ob=>exact hext b ob hg
theorem mE {b:Nat}(hext:∀k ob,hp H k=some ob->hp H' k=some ob)(h:hZ H b=true):hZ H' b=true:=by
 unfold hZ at h ⊢;rw[uG (F:=λx=>dh x (λ_ _ _=>true) false) rfl hext h];exact h
theorem J4 {o:Oper}{u:Value}(hext:∀k ob,hp H k=some ob->hp H' k=some ob)(h:rd P H tm o=some u):rd P H' tm o=some u:=by
 cases hl:kJ o.op with
 | false=>rw[xW hl];exact h
 | true=>
   unfold rd at h ⊢;cases ho:o.op with
   | load t x=>
     simp only[ho]at h ⊢;unfold ae at h ⊢;split at h
     . rename_i b off _;unfold iM at h ⊢;rw[wA (F:=λx=>pO x (λn tr=>iW P n tr t off) none) rfl hext h];exact h
     . exact h
     . cases h
   | slice t x lo hi mx=>
     simp only[ho]at h ⊢;unfold bm at h ⊢;split at h
     . rename_i b off len cap hx;obtain⟨hm,h⟩:=aS h;rw[hm];obtain⟨s,hs,h3⟩:=aD h;obtain⟨l,hl,h3⟩:=aD h3;obtain⟨hh,hhi,h3⟩:=aD h3;simp only[cond_true,hs,aN,hl,hhi];cases hc:Nat.beq cap dP with
       | false=>rw[hc]at h3;exact h3
       | true=>
         rw[hc]at h3;have h3:lL P H b off len s l hh=some u:=h3;show lL P H' b off len s l hh=some u;unfold lL at h3 ⊢;obtain⟨h4,h5⟩:=aS h3;rw[h4];cases h6:Nat.beq l 0 with
         | true=>rw[h6]at h5;exact h5
         | false=>
           rw[h6]at h5;obtain⟨h7,h8⟩:=aS (show(bif Nat.blt l len&&pP P H b s then bN (Nat.sub hh l) (λn=>bN (Nat.add off (Nat.mul l s)) λo=>some (Value.slice (some ⟨b,o,none⟩) n dP))else none)=some u from h5);simp only[Bool.and_eq_true]at h7;have h9:pP P H' b s=true:=by
            have h9:=h7.2;unfold pP at h9 ⊢;rw[uG (F:=λx=>dh x (λ_ _ el=>aa (a6 P el) (λz=>Nat.beq z s) false) false) rfl hext h9];exact h9
           show(bif Nat.blt l len&&pP P H' b s then bN (Nat.sub hh l) (λn=>bN (Nat.add off (Nat.mul l s)) λo=>some (Value.slice (some ⟨b,o,none⟩) n dP))else none)=some u;rw[h7.1,h9];exact h8
     . exact h
     . exact h
     . cases h
   | lookup t m k ok=>
     simp only[ho]at h ⊢;have h:eD P H t (br P tm m) (br P tm k) ok=some u:=h;show eD P H' t (br P tm m) (br P tm k) ok=some u;have he:A7 H' (br P tm m)=A7 H (br P tm m):=by
      unfold eD at h;obtain⟨kt,et,d,_,_,_,h⟩:=qq h;obtain⟨es,hes,_⟩:=aD h;unfold A7 at hes ⊢;split at hes
      . rfl
      . rename_i b;rw[wA (F:=λx=>match x with | some (.map es _)=>some es | _=>none) rfl hext hes]
      . cases hes
     unfold eD at h ⊢;rw[he];exact h
   | convert s d x=>
     simp only[ho]at h ⊢;unfold cB at h ⊢;split at h
     . rename_i b off n cp hx;obtain⟨h1,h2⟩:=aS h;rw[h1];show pO (H'.get (bits b)) _ none=some u;rw[wA (F:=λx=>pO x (λm tr=>bif Nat.ble (off+n) m then aa (mZ tr n off) (λl=>aa (strOf l) (λr=>some (Value.string ⟨⟨r⟩⟩)) none) none else none) none) rfl hext h2];exact h2
     . exact h
     . cases h
   | binOp op t x y yt=>
     simp only[ho]at h ⊢;unfold ah at h ⊢;obtain⟨a,ha,h⟩:=aD h;obtain⟨b,hb,h⟩:=aD h;rw[ha,hb];simp only[aN];have two:∀a b,iZ P H op t (pQ x||pQ y) a b=some u->iZ P H' op t (pQ x||pQ y) a b=some u:=λa b h=>by
      unfold iZ at h ⊢;cases hf:flat a&&flat b with
      | true=>rw[hf]at h;exact h
      | false=>
        rw[hf]at h;have h:nT P H op t a b=some u:=h;show nT P H' op t a b=some u;unfold nT at h ⊢;split at h
        . split at h
          . obtain⟨hc,h⟩:=aS h;simp only[Bool.and_eq_true]at hc;rw[mE hext hc.1,mE hext hc.2];exact h
          . cases h
        . exact h
     unfold vX at h ⊢;split at h
     . unfold B2 at h ⊢;split at h
       . exact h
       . exact two _ _ h
     . exact two _ _ h
   | _=>rw[ho]at hl;cases hl
theorem gj {an:List Nat}{i:Nat}{chk:List Nat}{rest:List (Nat×List Nat)}(h:eW ops an done g9 ((i,chk)::rest)=true):
 ∃o,ops[i]? = some o/\i∉done/\dA ops done o=true/\
  (jc an i o=true->eW ops an (i::done) (if kJ o.op=true then i::g9 else g9) rest=true)/\
  (jc an i o=false->(vY o.op=true->chk=[])/\(∀j∈rest,∀q,ops[j.1]? = some q->dA ops done q=false)/\(∀p∈g9,p∈chk\/p∈B5 ops i)/\eW ops an (i::done) chk rest=true):=by
 unfold eW at h;cases ho:ops[i]? with
 | none=>simp only[ho]at h;cases h
 | some o=>
   simp only[ho,Bool.and_eq_true,Bool.not_eq_true']at h;obtain⟨⟨h1,h2⟩,h3⟩:=h;refine⟨o,rfl,λq=> ?_,h2,λhc=> ?_,λhc=> ?_⟩
   . have:done.contains i=true:=by simpa using q
     rw[h1]at this;cases this
   . rw[if_pos hc]at h3;exact h3
   . rw[if_neg (by rw[hc];decide)]at h3;simp only[Bool.and_eq_true]at h3;refine⟨λhr=>by simpa[hr]using h3.1.1.1,λj hj q hq=> ?_,λp hp=> ?_,h3.2⟩
     . have:=List.all_eq_true.1 h3.1.1.2 j hj;rw[hq]at this;simpa using this
     . have:=List.all_eq_true.1 h3.1.2 p hp;simpa using this
theorem km {an:List Nat}:∀(pl:List (Nat×List Nat)) (done g9:List Nat),eW ops an done g9 pl=true->∀i,i<ops.size->i∈done\/∃c,(i,c)∈pl
 | [],done,g9,h,i,hi=>by
   unfold eW at h;have:=List.all_eq_true.1 h i (List.mem_range.2 hi);exact .inl (by simpa using this)
 | (j,chk)::rest,done,g9,h,i,hi=>by
   obtain⟨o,_,_,_,h1,h2⟩:=gj h;have key:∀lds',eW ops an (j::done) lds' rest=true->i∈done\/∃c,(i,c)∈(j,chk)::rest:=λlds' hh=>by
    rcases km rest (j::done) lds' hh i hi with h | ⟨c,h⟩
    . rcases List.mem_cons.1 h with h | h
      . subst h;exact .inr ⟨chk,by simp⟩
      . exact .inl h
    . exact .inr ⟨c,List.mem_cons_of_mem _ h⟩
   cases hc:jc an j o with
   | true=>exact key _ (h1 hc)
   | false=>exact key _ (h2 hc).2.2.2
theorem cW {o:Oper}:dA ops done o=true↔∀e∈o.after,Region.binds .any e=true->e.on∈done:=by
 unfold dA;rw[List.all_eq_true];constructor
 . intro h e he hb;have:=h e (by simpa using he);simpa[hb]using this
 . intro h e he;cases hb:Region.binds .any e with
   | false=>rfl
   | true=>simpa using h e (by simpa using he) hb
theorem oM {i p:Nat}(hna:i∉iO ops){o op:Oper}(ho:ops[i]? = some o)(hp:ops[p]? = some op)(hr:dA ops done op=true)(hi:i∉done){d:Tmp}(hd:o.dst=some d):d∉op.looksAt ops:=λhl=>by
 obtain⟨e,he,hb,hon⟩:=fL.1 (uF hna hp ho hd hl);exact hi (hon ▸ cW.1 hr e he hb)
theorem uH (hs:pS ops=true){i p:Nat}{o op:Oper}(ho:ops[i]? = some o)(hp:ops[p]? = some op)(hr:dA ops done op=true)(hi:i∉done)(hdeps:∀e∈o.after,Region.binds .any e=true->e.on≠p){d:Tmp}(hd:o.dst=some d):d∉op.looksAt ops:=λhl=>by
 rcases uE hs hp ho hd hl with h | h
 . obtain⟨e,he,hb,hon⟩:=fL.1 h;exact hi (hon ▸ cW.1 hr e he hb)
 . obtain⟨e,he,hb,hon⟩:=fL.1 h;exact hdeps e he hb hon
theorem jm {i p:Nat}{o op:Oper}{u:Value}(hl:∀d,o.dst=some d->d∉op.looksAt ops):bF (bU tm o.dst u) ops op=bF tm ops op:=
 pY λg hg d hd=>by
  rw[er,if_neg];exact λq=>hl d q (jl hg hd)
theorem l3 {o op:Oper}{u:Value}(hl:∀d,o.dst=some d->d∉op.looksAt ops):rd P H (bU tm o.dst u) op=rd P H tm op:=
 Cs λx hx=>lZ tm o.dst u x λd hd q=>by
  subst q;exact hl d hd (jk hx)
theorem oN {i p:Nat}{o op:Oper}{u:Value}(hs:pS ops=true)(ho:ops[i]? = some o)(hp:ops[p]? = some op)(hne:i≠p){d:Tmp}(hd:op.dst=some d):
 (bU tm o.dst u).get (bits d)=tm.get (bits d):=by
 rw[er,if_neg (J3 hs ho hp hd hne)]
theorem uD.next {i p:Nat}{o op:Oper}{u:Value}{κ':Nat->Nat}{hi':Nat}(hs:pS ops=true)(ho:ops[i]? = some o)(hp':ops[p]? = some op)(hne:i≠p)
 (hl:∀d,o.dst=some d->d∉op.looksAt ops) (hk:∀k,k<hi->φ[k]? = some none->φ'[k]? = some none/\hp H' k=hp H k) (hκ:κ' p=κ p) (hhi:hi<=hi')
 (h:uD P φ H tm ops κ lo hi p op):uD P φ' H' (bU tm o.dst u) ops κ' lo hi' p op:=by
 have e1:bF (bU tm o.dst u) ops op=bF tm ops op:=jm (i:=i) (p:=p) hl;have e2:∀d,op.dst=some d->(bU tm o.dst u).get (bits d)=tm.get (bits d):=λd hd=>oN hs ho hp' hne hd
 rcases h with⟨h1,h2⟩ | ⟨h1,h2,v,h3,h4⟩ | ⟨h1,hal,e,l,mk,h3,h4,h5,h6,h7,h8⟩
 . exact .inl ⟨e1.trans h1,λd hd=>(e2 d hd).trans (h2 d hd)⟩
 . exact .inr (.inl ⟨e1.trans h1,h2,v,λd hd=>(e2 d hd).trans (h3 d hd),λq=>by rw[l3 hl,xW q];exact h4 q⟩)
 . refine .inr (.inr ⟨e1.trans h1,hal,e,l,mk,qz (λx hx=>lZ tm o.dst u x λd hd q=>by
    subst q;exact hl d hd (jk hx)) h3,?_,?_,?_,?_,λd hd=> ?_⟩)
   . rw[hκ];exact(hk _ h7 h4).1
   . rw[hκ];exact(hk _ h7 h4).2.trans h5
   . rw[hκ];exact h6
   . rw[hκ];omega
   . rw[hκ];exact(e2 d hd).trans (h8 d hd)
theorem rI (hac:acyclic ops=true){i:Nat}{o:Oper}(ho:ops[i]? = some o):direct o i=false:=by
 cases h:direct o i with
 | false=>rfl
 | true=>
   obtain⟨e,he,hb,hon⟩:=fL.1 h;have h1:=List.all_eq_true.1 hac i (List.mem_range.2 (Array.getElem?_eq_some_iff.1 ho).1);rw[ho]at h1;have h2:=List.all_eq_true.1 h1 e (by simpa using he);simp only[hb,Bool.not_true,Bool.false_or]at h2;have:=dJ h2;omega
theorem Cw (hs:pS ops=true)(hac:acyclic ops=true){i:Nat}{o:Oper}(ho:ops[i]? = some o){d:Tmp}(hd:o.dst=some d):d∉o.looksAt ops:=λhl=>by
 have:=(uE hs ho ho hd hl).elim id id;rw[rI hac ho]at this;cases this
theorem ec.take {i:Nat}{o:Oper}{chk:List Nat}{rest:List (Nat×List Nat)}(hD:ec P φ H tm tmps ops done g9 ((i,chk)::rest) π κ lo hi)(ho:ops[i]? = some o)
 (hna:i∉iO ops) (hni:i∉done) (hrdy:dA ops done o=true) {lds':List Nat} (hplan:eW ops (ic ops) (i::done) lds' rest=true) (hsub:∀p∈g9,p∈lds') (hself:kJ o.op=true->i∈lds')
 {κ':Nat->Nat} {hi':Nat} (hle:φ.le φ') (hk:∀k,k<hi->φ[k]? = some none->φ'[k]? = some none/\hp H' k=hp H k) (hκ:∀p,p≠i->κ' p=κ p) (hhi:hi<=hi') {u:Value}
 (hdst:∀d,o.dst=some d->d<tmps.size) (hprom:uD P φ' H' (bU tm o.dst u) ops κ' lo hi' i o) (hfresh:nY o.op=true->hi<=κ' i):
 ec P φ' H' (bU tm o.dst u) tmps ops (i::done) lds' rest π κ' lo hi':=by
 have hisz:i<ops.size:=(Array.getElem?_eq_some_iff.1 ho).1;have hiπ:i∈π:=hD.todo i hisz hni;have nl:∀p,p∈done->∀op,ops[p]? = some op->∀d,o.dst=some d->d∉op.looksAt ops:=λp hpd op hp d hd=>oM hna ho hp (hD.ready p hpd op hp) hni hd;have hlt:∀q,q∈π->q∈done->∀o',ops[q]? = some o'->nY o'.op=true->bF tm ops o'=some true->κ q<hi:=λq hq hqd o' ho' hal hw=>by
  rcases hD.prom q hq hqd o' ho' with⟨h1,_⟩ | ⟨_,h2,_⟩ | ⟨_,_,_,_,_,_,_,_,_,h7,_⟩
  . rw[hw]at h1;cases h1
  . rw[xX hal]at h2;cases h2
  . exact h7
 refine⟨hD.sa,hD.ac,hplan,hD.Fb,λj hj hn=>hD.todo j hj (λq=>hn (List.mem_cons_of_mem _ q)),hD.closed,λj hj x hx=> ?_,λt v hv=> ?_,λj x d hx hxd hj=> ?_,λp hp hpd op hop=> ?_,λp hp hpd op hop hl=> ?_,λp q hp hpd hq hqd x y hx hy hxa hya hxw hyw heq=> ?_,λp hp hpd=>(List.mem_cons.1 hpd).elim (λh=>h ▸ hna) (hD.own p hp)⟩
 . rw[cW];intro e he hb;rcases List.mem_cons.1 hj with h | h
   . subst h;rw[ho]at hx;cases hx;exact List.mem_cons_of_mem _ (cW.1 hrdy e he hb)
   . exact List.mem_cons_of_mem _ (cW.1 (hD.ready j h x hx) e he hb)
 . rw[er]at hv
   by_cases ht:o.dst=some t
   . refine .inl ⟨i,hiπ,by simp,?_⟩;unfold gN;rw[ho];exact ht
   . rw[if_neg ht]at hv;rcases hD.tr t v hv with⟨p,h1,h2,h3⟩ | ⟨v',a,b⟩
     . exact .inl ⟨p,h1,List.mem_cons_of_mem _ h2,h3⟩
     . exact .inr ⟨v',a,b.mono hle⟩
 . rcases List.mem_cons.1 hj with h | h
   . subst h;rw[ho]at hx;cases hx;exact hdst d hxd
   . exact hD.FC j x d hx hxd h
 . rcases List.mem_cons.1 hpd with h | h
   . subst h;rw[ho]at hop;cases hop;exact hprom
   . have hne:i≠p:=λq=>hni (q ▸ h);exact(hD.prom p hp h op hop).next hD.sa ho hop hne (nl p h op hop) hk (hκ p (Ne.symm hne)) hhi
 . rcases List.mem_cons.1 hpd with h | h
   . subst h;rw[ho]at hop;cases hop;exact hself hl
   . exact hsub p (hD.g9 p hp h op hop hl)
 . have wst:∀p,p∈done->∀x,ops[p]? = some x->bF (bU tm o.dst u) ops x=some true->bF tm ops x=some true:=λp hpd x hx h=>by
    rw[jm (i:=i) (p:=p) (nl p hpd x hx)]at h;exact h
   rcases List.mem_cons.1 hpd with h | h<;>rcases List.mem_cons.1 hqd with h' | h'
   . rw[h,h']
   . have hne:q≠i:=λz=>hni (z ▸ h');rw[hκ q hne,h]at heq;rw[h]at hx;rw[ho]at hx;cases hx;have:=hfresh hxa;have:=hlt q hq h' y hy hya (wst q h' y hy hyw);omega
   . have hne:p≠i:=λz=>hni (z ▸ h);rw[hκ p hne,h']at heq;rw[h']at hy;rw[ho]at hy;cases hy;have:=hfresh hya;have:=hlt p hp h x hx hxa (wst p h x hx hxw);omega
   . have hne:p≠i:=λz=>hni (z ▸ h);have hne':q≠i:=λz=>hni (z ▸ h');rw[hκ p hne,hκ q hne']at heq;exact hD.inj p q hp h hq h' x y hx hy hxa hya (wst p h x hx hxw) (wst q h' y hy hyw) heq
theorem jj.take {i:Nat}{o:Oper}(hs:pS ops=true)(hready:∀i,i∈done->∀o,ops[i]? = some o->dA ops done o=true)(ho:ops[i]? = some o)(hna:i∉iO ops)(hni:i∉done)(hL:jj P H tm ops done π)
 (hext:∀k ob,hp H k=some ob->hp H' k=some ob) {u:Value} (hself:kJ o.op=true->bF (bU tm o.dst u) ops o=some true->rd P H' (bU tm o.dst u) o=some u):
 jj P H' (bU tm o.dst u) ops (i::done) π:=by
 intro p hp hpd op hop hl hw;rcases List.mem_cons.1 hpd with h | h
 . subst h;rw[ho]at hop;cases hop;refine⟨u,hself hl hw,λd hd=> ?_⟩;rw[er,if_pos hd]
 . have nl:∀d,o.dst=some d->d∉op.looksAt ops:=λd hd=>oM hna ho hop (hready p h op hop) hni hd;have hne:i≠p:=λq=>hni (q ▸ h);rw[jm (i:=i) (p:=p) nl]at hw;obtain⟨v,h1,h2⟩:=hL p hp h op hop hl hw;refine⟨v,?_,λd hd=> ?_⟩
   . rw[l3 nl];exact J4 hext h1
   . rw[oN hs ho hop hne hd];exact h2 d hd
theorem nf {L:List Nat}(hcl:∀i,i∉L->∀o,ops[i]? = some o->∀e∈o.after,Region.binds .any e=true->e.on∉L):∀(q:Nat) (acc:List Nat),(∀x∈acc,x∉L)->∀x∈qe ops q acc,x∉L
 | 0,acc,h,x,hx=>h x hx
 | q+1,acc,h,x,hx=>by
   unfold qe at hx;split at hx
   . rename_i hc;split at hx
     . rename_i o ho;refine nf hcl q _ ?_ x hx;have hq:q∉L:=h q (by simpa using hc);have:∀(es:List Edge) (acc:List Nat),(∀e∈es,e∈o.after)->(∀x∈acc,x∉L)->∀x∈es.foldl (λl e=>if Region.binds .any e=true then e.on::l else l) acc,x∉L:=by
        intro es
        induction es with
        | nil=>exact λacc _ h=>h
        | cons e es ih=>
          intro acc hes h;refine ih _ (λe' he'=>hes e' (List.mem_cons_of_mem _ he')) ?_
          dsimp only
          split
          . rename_i hb;intro x hx;rcases List.mem_cons.1 hx with hx | hx
            . subst hx;exact hcl q hq o ho e (hes e (by simp)) hb
            . exact h x hx
          . exact h
       exact this _ _ (λe he=>by simpa using he) h
     . exact nf hcl q _ h x hx
   . exact nf hcl q _ h x hx
theorem Cx {i:Nat}{π:List Nat}(hlin:oH ops (i::π))(hcl:∀j,j∉i::π->∀o,ops[j]? = some o->∀e∈o.after,Region.binds .any e=true->e.on∉i::π):
 ∀x∈B5 ops i,x∉i::π:=by
 obtain⟨⟨o,ho,hdeps⟩,_⟩:=hlin;unfold B5;rw[ho];refine nf hcl i _ ?_;have:∀(es:List Edge) (acc:List Nat),(∀e∈es,e∈o.after)->(∀x∈acc,x∉i::π)->∀x∈es.foldl (λl e=>if Region.binds .any e=true then e.on::l else l) acc,x∉i::π:=by
  intro es
  induction es with
  | nil=>exact λacc _ h=>h
  | cons e es ih=>
    intro acc hes h;refine ih _ (λe' he'=>hes e' (List.mem_cons_of_mem _ he')) ?_
    dsimp only
    split
    . rename_i hb;intro x hx;rcases List.mem_cons.1 hx with hx | hx
      . subst hx;exact hdeps e (hes e (by simp)) hb
      . exact h x hx
    . exact h
 exact this _ _ (λe he=>by simpa using he) (λx hx=>by cases hx)
theorem ec.finish {i:Nat}{o:Oper}{chk:List Nat}{rest:List (Nat×List Nat)}(hD:ec P φ H tm tmps ops done g9 ((i,chk)::rest) (i::π) κ lo hi)(ho:ops[i]? = some o)
 (hE:jc (ic ops) i o=false) {hi':Nat} (hle:φ.le φ') (hk:∀k,k<hi->φ[k]? = some none->φ'[k]? = some none/\hp H' k=hp H k) (hhi:hi<=hi') {u u':Value} (hu:VR φ' u u')
 (hdst:∀d,o.dst=some d->d<tmps.size) (hchk:chk.all (held P H' (bU tm o.dst u) ops)=true):
 ec P φ' H' (bU tm o.dst u) (gU tmps o.dst u') ops (i::done) chk rest π κ lo hi'/\jj P H' (bU tm o.dst u) ops (i::done) π:=by
 obtain⟨o',ho',hni,hrdy,_,hpl⟩:=gj hD.Bs;rw[ho]at ho';cases ho';obtain⟨_,_,hlds,hplan⟩:=hpl hE;obtain⟨⟨o',ho',hdeps⟩,hnπ,hlin⟩:=hD.Fb;rw[ho]at ho';cases ho';have hanc:=Cx hD.Fb hD.closed;have nl:∀p,p∈π->p∈done->∀op,ops[p]? = some op->∀d,o.dst=some d->d∉op.looksAt ops:=λp hpπ hpd op hp d hd=>uH hD.sa ho hp (hD.ready p hpd op hp) hni (λe he hb q=>hdeps e he hb (by rw[q];exact List.mem_cons_of_mem _ hpπ)) hd;have pd:∀p,p∈π->p∈i::done->p∈done:=λp hp hpd=>(List.mem_cons.1 hpd).resolve_left (λq=>hnπ (q ▸ hp));have inchk:∀p,p∈π->p∈done->∀op,ops[p]? = some op->kJ op.op=true->p∈chk:=λp hp hpd op hop hl=>
  (hlds p (hD.g9 p (List.mem_cons_of_mem _ hp) hpd op hop hl)).resolve_right (λq=>hanc p q (List.mem_cons_of_mem _ hp))
 refine⟨⟨hD.sa,hD.ac,hplan,hlin,λj hj hn=> ?_,λj hj x hx e he hb=> ?_,λj hj x hx=> ?_,?_,λj x d hx hxd hj=> ?_,λp hp hpd op hop=> ?_,λp hp hpd op hop hl=>inchk p hp (pd p hp hpd) op hop hl,λp q hp hpd hq hqd x y hx hy hxa hya hxw hyw heq=> ?_,λp hp hpd=>hD.own p (List.mem_cons_of_mem _ hp) (pd p hp hpd)⟩,?_⟩
 . rcases List.mem_cons.1 (hD.todo j hj (λq=>hn (List.mem_cons_of_mem _ q)))with h | h
   . subst h;exact absurd (List.mem_cons_self ..) hn
   . exact h
 . by_cases hji:j=i
   . subst hji;rw[ho]at hx;cases hx;exact λh=>hdeps e he hb (List.mem_cons_of_mem _ h)
   . exact λh=>hD.closed j (λh=>(List.mem_cons.1 h).elim hji hj) x hx e he hb (List.mem_cons_of_mem _ h)
 . rw[cW];intro e he hb;rcases List.mem_cons.1 hj with h | h
   . subst h;rw[ho]at hx;cases hx;exact List.mem_cons_of_mem _ (cW.1 hrdy e he hb)
   . exact List.mem_cons_of_mem _ (cW.1 (hD.ready j h x hx) e he hb)
 . refine(hD.tr.mono hle).put hdst hu λt ht hne=> ?_;obtain⟨p,h1,h2,h3⟩:=ht;rcases List.mem_cons.1 h1 with h | h
   . subst h;exact absurd h2 hni
   . exact⟨p,h,List.mem_cons_of_mem _ h2,h3⟩
 . rw[dw];rcases List.mem_cons.1 hj with h | h
   . subst h;rw[ho]at hx;cases hx;exact hdst d hxd
   . exact hD.FC j x d hx hxd h
 . have hpd:=pd p hp hpd;have hne:i≠p:=λq=>hni (q ▸ hpd);exact(hD.prom p (List.mem_cons_of_mem _ hp) hpd op hop).next hD.sa ho hop hne (nl p hp hpd op hop) hk rfl hhi
 . have hpd:=pd p hp hpd;have hqd:=pd q hq hqd;have wst:∀p,p∈π->p∈done->∀x,ops[p]? = some x->bF (bU tm o.dst u) ops x=some true->bF tm ops x=some true:=λp hpπ hpd x hx h=>by
    rw[jm (i:=i) (p:=p) (nl p hpπ hpd x hx)]at h;exact h
   exact hD.inj p q (List.mem_cons_of_mem _ hp) hpd (List.mem_cons_of_mem _ hq) hqd x y hx hy hxa hya (wst p hp hpd x hx hxw) (wst q hq hqd y hy hyw) heq
 . intro p hp hpd op hop hl hw;have hpd:=pd p hp hpd;have h1:=List.all_eq_true.1 hchk p (inchk p hp hpd op hop hl);unfold held at h1;rw[hop]at h1;have h1:Ie P H' (bU tm o.dst u) op (bF (bU tm o.dst u) ops op)=true:=h1;rw[hw]at h1;have h1:aa (rd P H' (bU tm o.dst u) op) (xK (bU tm o.dst u) op.dst) false=true:=h1;cases hr:rd P H' (bU tm o.dst u) op with
   | none=>rw[hr]at h1;cases h1
   | some v=>
     rw[hr]at h1;have h1:xK (bU tm o.dst u) op.dst v=true:=h1;refine⟨v,rfl,λd hd=> ?_⟩;unfold xK at h1;rw[hd]at h1;cases hg:(bU tm o.dst u).get (bits d)with
     | none=>simp only[hg]at h1;cases h1
     | some v2=>
       simp only[hg]at h1;rw[Bq h1]
theorem ec.head {i:Nat}{o:Oper}{chk:List Nat}{rest:List (Nat×List Nat)}(hD:ec P φ H tm tmps ops done g9 ((i,chk)::rest) π κ lo hi)(ho:ops[i]? = some o)
 (hE:jc (ic ops) i o=false) (hn:∀q l,π=q::l->q∉done):∃l,π=i::l:=by
 obtain⟨o',ho',hni,hrdy,_,hpl⟩:=gj hD.Bs;rw[ho]at ho';cases ho';obtain⟨_,hrest,_,_⟩:=hpl hE;have hi:=hD.todo i (Array.getElem?_eq_some_iff.1 ho).1 hni;cases π with
 | nil=>cases hi
 | cons q l=>
   refine⟨l,?_⟩;have hq:=hn q l rfl;obtain⟨⟨oq,hoq,hdeps⟩,_,_⟩:=hD.Fb;have hqsz:=(Array.getElem?_eq_some_iff.1 hoq).1;have hqr:dA ops done oq=true:=cW.2 λe he hb=>by
    have h1:=hdeps e he hb;have h2:e.on<ops.size:=by
     have h3:=List.all_eq_true.1 hD.ac q (List.mem_range.2 hqsz);rw[hoq]at h3;have h4:=List.all_eq_true.1 h3 e (by simpa using he);simp only[hb,Bool.not_true,Bool.false_or]at h4;have:=dJ h4;omega
    by_cases h5:e.on∈done
    . exact h5
    . exact absurd (hD.todo e.on h2 h5) h1
   rcases km _ _ _ hD.Bs q hqsz with h | ⟨c,h⟩
   . exact absurd h hq
   . rcases List.mem_cons.1 h with h | h
     . cases h;rfl
     . have:=hrest _ h oq hoq;rw[hqr]at this;cases this
theorem ec.last (hD:ec P φ H tm tmps ops done g9 [] π κ lo hi)(hn:∀q l,π=q::l->q∉done):π=[]:=by
 cases π with
 | nil=>rfl
 | cons q l=>
   obtain⟨⟨oq,hoq,_⟩,_,_⟩:=hD.Fb;rcases km _ _ _ hD.Bs q (Array.getElem?_eq_some_iff.1 hoq).1 with h | ⟨c,h⟩
   . exact absurd h (hn q l rfl)
   . cases h
theorem wB {pl:List (Nat×List Nat)}(h:rl ops=some pl):pS ops=true/\acyclic ops=true/\eW ops (ic ops) [] [] pl=true:=by
 unfold rl at h;split at h
 . cases h
 . split at h
   . rename_i hc;cases h;simp only[Bool.and_eq_true]at hc;exact⟨hc.1.1.1,hc.1.1.2,hc.2⟩
   . cases h
theorem ec.start {pl:List (Nat×List Nat)}(h:rl ops=some pl)(t:Nat)(htr:uB φ (λ_=>False) tm tmps)(lo hi:Nat):
 ec P φ H tm tmps ops [] [] pl (Region.schedule true ops t) id lo hi/\jj P H tm ops [] (Region.schedule true ops t):=by
 obtain⟨h1,h2,h3⟩:=wB h;obtain⟨h4,h5⟩:=Br ops h2 t;refine⟨⟨h1,h2,h3,h4,λi hi _=>h5 i hi,λi hi o ho=>absurd (h5 i (Array.getElem?_eq_some_iff.1 ho).1) hi,λi hi=>absurd hi List.not_mem_nil,λt v hv=>(htr t v hv).imp False.elim id,
  λi o d _ _ hi=>absurd hi List.not_mem_nil,λp _ hp=>absurd hp List.not_mem_nil,λp _ hp=>absurd hp List.not_mem_nil,λp q _ hp=>absurd hp List.not_mem_nil,λp _ hp=>absurd hp List.not_mem_nil⟩,λp _ hp=>absurd hp List.not_mem_nil⟩
end
section
variable {P:Program}
def kindOf (kd:Bool):CallKind:=match kd with
 | true=> .deferred
 | false=> .normal
inductive Il (P:Program)(φ:bZ):List (FuncId×List Value)->List Deferred->Prop
 | nil:Il P φ [] []
 | cons {d:FuncId×List Value} {d':Deferred} {l:List (FuncId×List Value)} {l':List Deferred} (h:Mp P φ d d') (hl:Il P φ l l'):Il P φ (d::l) (d'::l')
theorem Il.mono {φ φ':bZ}(hle:φ.le φ'){l:List (FuncId×List Value)}{l':List Deferred}(h:Il P φ l l'):Il P φ' l l':=by
 induction h with
 | nil=>exact .nil
 | cons h _ ih=>exact .cons (h.mono hle) ih
def bS (c:Cg)(ds:List Deferred):FB:=⟨c.fn,kindOf c.kd,ds⟩
def eF (m:Option Value):FrameMode:=match m with
 | none=> .returning
 | some v=> .panicking [{ v,recovered:=false }]
def uI:List Frame->List Frame
 | C::r=>(match C.mode with
   | .panicking ({ v,recovered:=false,goexit:=false }::older)=>{ C with mode:= .panicking ({ v,recovered:=true }::older) }::r
   | _=>C::r)
 | []=>[]
def du (rc:Bool)(cs:List Frame):List Frame:=match rc with
 | true=>uI cs
 | false=>cs
def wC (φ:bZ)(kd:Bool)(rp:Option Value)(rc:Bool)(cs0:List Frame):Prop:=kd=true->match rp with
 | some v=>rc=false/\∃C r v' older,cs0=C::r/\C.mode= .panicking ({ v:=v',recovered:=false,goexit:=false }::older)/\VR φ v v'
 | none=>∀F:Frame,F.kind= .deferred->tryRecover F (du rc cs0)=none
theorem wC.mono {φ φ':bZ}(hle:φ.le φ'){kd:Bool}{rp:Option Value}{rc:Bool}{cs0:List Frame}(h:wC φ kd rp rc cs0):wC φ' kd rp rc cs0:=λq=>by
 have:=h q;cases rp with
 | none=>exact this
 | some v=>
   obtain⟨a,C,r,v',older,b,c,d⟩:=this;exact⟨a,C,r,v',older,b,c,d.mono hle⟩
theorem wD {F:Frame}{cs:List Frame}(h:F.kind= .normal):tryRecover F cs=none:=by
 unfold tryRecover;rw[h]
theorem fA {F C:Frame}{cs:List Frame}(h:F.kind= .deferred):tryRecover F (C::cs)=(match C.mode with
 | .panicking ({ v,recovered:=false,goexit:=false }::older)=>some (v,{ C with mode:= .panicking ({ v,recovered:=true }::older) }::cs)
 | _=>none):=by
 conv=>lhs;unfold tryRecover
 rw[h];rfl
theorem Cy {F:Frame}{cs:List Frame}(h:F.kind= .deferred):tryRecover F (uI cs)=none:=by
 cases cs with
 | nil=>unfold tryRecover;rw[h];rfl
 | cons C r=>
   show tryRecover F (match C.mode with
   | .panicking ({ v,recovered:=false,goexit:=false }::older)=>{ C with mode:= .panicking ({ v,recovered:=true }::older) }::r
   | _=>C::r)=none
   split
   . rw[fA h]
   . rename_i hn;rw[fA h];split
     . rename_i v older q;exact absurd q (hn v older)
     . rfl
theorem Bu {C:Frame}{r:List Frame}(h:∀l,C.mode ≠ .panicking l):uI (C::r)=C::r:=by
 show(match C.mode with
  | .panicking ({ v,recovered:=false,goexit:=false }::older)=>{ C with mode:= .panicking ({ v,recovered:=true }::older) }::r
  | _=>C::r)=C::r
 split
 . rename_i q;exact absurd q (h _)
 . rfl
theorem uJ {C:Frame}{r:List Frame}(rc:Bool)(h:∀l,C.mode ≠ .panicking l):du rc (C::r)=C::r:=by
 cases rc
 . rfl
 . exact Bu h
def Mu (P:Program)(φ:bZ)(o:Out)(fr:Frame)(w:World):Prop:=match o with
 | .ret v=>∃v',VR φ v v'/\fr.going P w (.returned v')
 | .eR v=>∃v',VR φ v v'/\fr.going P w (.panicked [{ v:=v',recovered:=false }])
variable {W w w' w1:World}{f fn:FuncId}{cs cs0:List Frame}{r:Rt}{fr fr' fr1:Frame}{φ φ' φ1:bZ}{H H' H1:T OB}{nx nx' aJ nt lo hi:Nat}{tm:T Value}{tmps:Array Value}{ops:Array Oper}
 {todo k:List Item} {c:Cg} {ds:List Deferred} {kd:Bool} {O:bI->Option Rt}
def cH (P:Program)(W:World)(kd:Bool)(fn:FuncId)(lo:Nat)(cs0:List Frame)(rc:Bool)(φ:bZ)(H:T OB)(r:Rt)(fr:Frame)(w:World):Prop:=
 ∃φ' w' frl,Steps P (lone fr (du rc cs0) w) (lone frl (du r.rc cs0) w')/\φ.le φ'/\HR P W φ' (hp r.H) w'/\φ'.length=r.nx/\(∀k,k<lo->φ[k]? = some none->φ'[k]? = some none/\hp r.H k=hp H k)/\
  frl.kind=kindOf kd/\frl.fn=fn/\Mu P φ' r.o frl w'
theorem cH.steps {rc rc1:Bool}(hs:Steps P (lone fr (du rc cs0) w) (lone fr1 (du rc1 cs0) w1))(hle:φ.le φ1)(hk:∀k,k<lo->φ[k]? = some none->φ1[k]? = some none/\hp H1 k=hp H k)
 (h:cH P W kd fn lo cs0 rc1 φ1 H1 r fr1 w1):cH P W kd fn lo cs0 rc φ H r fr w:=by
 obtain⟨φ',w',frl,h1,h2,h3,h4,h5,h6,h7,h8⟩:=h;exact⟨φ',w',frl,hs.trans h1,bZ.le_trans hle h2,h3,h4,λk hk' q=>⟨(h5 k hk' (hk k hk' q).1).1,(h5 k hk' (hk k hk' q).1).2.trans (hk k hk' q).2⟩,h6,h7,h8⟩
theorem cH.step1 {rc:Bool}(hs:Steps P (lone fr (du rc cs0) w) (lone fr1 (du rc cs0) w))(h:cH P W kd fn lo cs0 rc φ H r fr1 w):cH P W kd fn lo cs0 rc φ H r fr w:=
 h.steps hs φ.le_refl λ_ _ q=>⟨q,rfl⟩
theorem ng {a:Rt}(h:(Q.ret a).run O=some r):a=r:=by cases h;rfl
theorem e8 (h:Q.bad.run O=some r):False:=by cases h
theorem kY {q:bI}{g:Rt->Q}(h:(Q.ask q g).run O=some r):∃a,O q=some a/\(g a).run O=some r:=by
 have h:aa (O q) (λa=>(g a).run O) none=some r:=h;exact aD h
theorem Cz {q:bI}(h:(Q.jump q).run O=some r):O q=some r:=h
theorem bx {α:Type}{x:Option α}{g:α->Q}(h:(aa x g .bad).run O=some r):∃a,x=some a/\(g a).run O=some r:=by
 cases x with
 | none=>cases h
 | some a=>exact⟨a,rfl,h⟩
theorem jL {b:Bool}{x:Q}(h:(bif b then x else Q.bad).run O=some r):b=true/\x.run O=some r:=by
 cases b
 . cases h
 . exact⟨rfl,h⟩
theorem dy {b:Bool}{x y:Q}(h:(bK b x y).run O=some r):(b=true/\x.run O=some r)\/(b=false/\y.run O=some r):=by
 cases b
 . exact .inr ⟨rfl,h⟩
 . exact .inl ⟨rfl,h⟩
theorem cv {dst:Option Tmp}{v:Value}{g:T Value->Q}(h:(ib nt tm dst v g .bad).run O=some r):(∀d,dst=some d->d<nt)/\(g (bU tm dst v)).run O=some r:=by
 cases dst with
 | none=>exact⟨λd hd=>(by cases hd),h⟩
 | some d=>
   obtain⟨h1,h2⟩:=jL (show(bif Nat.blt d nt then cJ (bits d) tm (some v) g else Q.bad).run O=some r from h);rw[aY]at h2;exact⟨λd' hd=>by cases hd;exact dJ h1,h2⟩
theorem kZ {t:Bool}{dst:Option Tmp}{v:Value}{g:T Value->Q}(h:(Be P t nt tm dst v g).run O=some r):(∀d,dst=some d->d<nt)/\(g (bU tm dst v)).run O=some r:=by
 unfold Be at h;rcases dy h with⟨_,h1⟩ | ⟨_,h1⟩
 . unfold aI at h1;split at h1
   . exact cv h1
   . cases h1
 . exact cv h1
theorem nh {e:dI}{g:Value->T OB->Nat->Q}(h:(ao e g).run O=some r):∃v H nx,e= .val v H nx/\(g v H nx).run O=some r:=by
 cases e with
 | val v H nx=>exact⟨v,H,nx,rfl,h⟩
 | _=>cases h
theorem CA {x:Option Value}{g:Nat->Nat->Q}(h:(Fl x g).run O=some r):∃b off,x=some (.pointer (some ⟨b,off,none⟩))/\(g b off).run O=some r:=by
 unfold Fl at h;split at h
 . exact⟨_,_,rfl,h⟩
 . cases h
theorem wE {x:Option OB}{g:Nat->T Value->TypeId->Q}(h:(ke x g).run O=some r):∃n t e,x=some (.cells n t e)/\(g n t e).run O=some r:=by
 unfold ke at h;split at h
 . exact⟨_,_,_,rfl,h⟩
 . cases h
theorem gV {α:Type}(v:α):∀(bs:List Bool) (t:T α),t.get bs=some v->set t bs (some v)=t
 | [],.leaf,h=>by cases h
 | [],.node x l r,h=>by have h:x=some v:=h;subst h;rfl
 | b::bs,.leaf,h=>by rw[gO]at h;cases h
 | false::bs,.node x l r,h=>by rw[fI,gV v bs l h]
 | true::bs,.node x l r,h=>by rw[gA,gV v bs r h]
theorem qA {o:Oper}{yes no:T Value->Q}(h:(rm tm ops o.guard yes no).run O=some r):∃b,bF tm ops o=some b/\(b=true->(yes tm).run O=some r)/\(b=false->(no tm).run O=some r):=by
 unfold bF;unfold rm at h;split at h
 . rename_i hg;exact⟨true,(by first | rfl | rw[hg]),λ_=>h,λq=>(by cases q)⟩
 . rename_i p hg;obtain⟨d,hd,h1⟩:=bx h;show ∃b,aa (gN ops p.1) (λd=>jb tm d p.2) none=some b/\_;rw[hd];show ∃b,jb tm d p.2=some b/\_;unfold jb;split at h1
   . rename_i x hx;rw[aY,aY,aY,aY]at h1;refine⟨_,rfl,λq=> ?_,λq=> ?_⟩
     . have q:x=p.2:=by simpa using q
       subst q;rcases dy h1 with⟨h2,h3⟩ | ⟨h2,h3⟩
       . rw[h2]at h3 hx;have h3:(yes (set tm (bits d) (some (.bool true)))).run O=some r:=h3;rwa[gV _ _ _ hx]at h3
       . rw[h2]at h3 hx;have h3:(yes (set tm (bits d) (some (.bool false)))).run O=some r:=h3;rwa[gV _ _ _ hx]at h3
     . have q:x≠p.2:=by simpa using q
       rcases dy h1 with⟨h2,h3⟩ | ⟨h2,h3⟩
       . have:x=false:=by cases x<;>simp_all
         subst this;have h3:(no (set tm (bits d) (some (.bool false)))).run O=some r:=h3;rwa[gV _ _ _ hx]at h3
       . have:x=true:=by cases x<;>simp_all
         subst this;have h3:(no (set tm (bits d) (some (.bool true)))).run O=some r:=h3;rwa[gV _ _ _ hx]at h3
   . rename_i x hx;exact⟨false,rfl,λq=>(by cases q),λ_=>h1⟩
   . cases h1
theorem oO (hle:φ.le φ')(hk:dW φ φ' (hp H) (hp H')):φ.length<=φ'.length:=by
 rcases Nat.eq_zero_or_pos φ.length with h | h
 . omega
 . have hlt:φ.length-1<φ.length:=by omega
   have hq:=List.getElem?_eq_getElem hlt;cases hx:φ[φ.length-1]with
   | none=>rw[hx]at hq;have:=(List.getElem?_eq_some_iff.1 (hk _ hq).1).1;omega
   | some e=>rw[hx]at hq;have:=(List.getElem?_eq_some_iff.1 (hle _ _ hq)).1;omega
theorem HR.OU {g:Nat->Option OB}(hH:HR P W φ g w){b n:Nat}{t:T Value}{e:fp}(hg:g b=some .dead)(hb:φ[b]? = some (some e))(hob:ui P W φ (.ro n t) e w):HR P W φ (lQ g b (some (.ro n t))) w where
 below:=hH.below
 gl:=hH.gl
 mz:=λk o h=>by
  by_cases hk:k=b
  . subst hk;exact hH.mz k _ hg
  . rw[aX g hk]at h;exact hH.mz k o h
 lI:=hH.lI
 inj:=λk k' oa oa' x x' h h' hk hk' hla hla' hr=>by
  have hx:∀j oj,lQ g b (some (.ro n t)) j=some oj->live oj=true->g j=some oj:=by
   intro j oj h hl'
   by_cases hj:j=b
   . subst hj;rw[cf]at h;cases h;cases hl'
   . rwa[aX g hj]at h
  exact hH.inj k k' _ _ x x' h h' (hx k _ hk hla) (hx k' _ hk' hla') hla hla' hr
 obj:=λk oa x hk h=>by
  by_cases hkb:k=b
  . subst hkb;rw[cf]at hk;cases hk;rw[hb]at h;cases h;exact hob
  . rw[aX g hkb]at hk;exact hH.obj k oa x hk h
 j3:=hH.j3
 oo:=λk k' x x' c o h hf h' hk' hl'=>by
  by_cases hkb:k'=b
  . subst hkb;rw[cf]at hk';cases hk';cases hl'
  . rw[aX g hkb]at hk';exact hH.oo k k' x x' c o h hf h' hk' hl'
theorem HR.ghost {g:Nat->Option OB}(hH:HR P W φ g w){e:fp}{c:Array Value}{el:TypeId}{fz:Nat×Nat}(hf:e.fz=some c)(hr:w.heap[e.r]? = some (.cells c el fz))
 (hno:∀(k:Nat) (x:fp) (ob:OB),φ[k]? = some (some x)->g k=some ob->live ob=true->x.r≠e.r):HR P W (φ++[some e]) g w where
 below:=hH.below
 gl:=hH.Fy (cc φ _)
 mz:=λk o h=>by have:=hH.mz k o h;simp;omega
 lI:=λk x h=>by
  rcases bA h with h | ⟨_,h⟩
  . exact hH.lI k x h
  . cases h;exact(Array.getElem?_eq_some_iff.1 hr).1
 inj:=λk k' o1 o2 x x' h h' hg hg' hl hl' hrr=>by
  have l1:=hH.mz k _ hg;have l2:=hH.mz k' _ hg';rcases bA h with h0 | ⟨hk,_⟩
  . rcases bA h' with h1 | ⟨hk',_⟩
    . exact hH.inj k k' o1 o2 x x' h0 h1 hg hg' hl hl' hrr
    . omega
  . omega
 obj:=λk oa x hg h=>by
  have l1:=hH.mz k _ hg;rcases bA h with h0 | ⟨hk,_⟩
  . exact(hH.obj k oa x hg h0).mono (cc φ _)
  . omega
 j3:=λk x c' h hf'=>by
  rcases bA h with h1 | ⟨_,hx⟩
  . exact hH.j3 k x c' h1 hf'
  . cases hx;rw[hf]at hf';cases hf';exact⟨el,fz,hr⟩
 oo:=λk k' x x' c' o h hf' h' hg hl=>by
  have l2:=hH.mz k' _ hg;rcases bA h' with h2 | ⟨hk',_⟩
  . rcases bA h with h1 | ⟨_,hx⟩
    . exact hH.oo k k' x x' c' o h1 hf' h2 hg hl
    . cases hx;exact hno k' x' o h2 hg hl
  . omega
theorem HR.grown {g:Nat->Option OB}(hH:HR P W φ g w)(hb:Below w.heap.size w w'):HR P W φ g w':=by
 have hr:∀(k:Nat) (e:fp),φ[k]? = some (some e)->w'.heap[e.r]? = w.heap[e.r]? := λk e h=>hb.block e.r (hH.lI k e h);exact {
  below:=hH.below.trans (hb.mono hH.below.size)
  gl:=hH.gl
  mz:=hH.mz
  lI:=λk e h=>Nat.lt_of_lt_of_le (hH.lI k e h) hb.size
  inj:=hH.inj
  obj:=λk ob e hg h=>(hH.obj k ob e hg h).heap λ_=>hr k e h
  j3:=λk e c h hf=>by obtain⟨el,fz,q⟩:=hH.j3 k e c h hf;exact⟨el,fz,by rw[hr k e h];exact q⟩
  oo:=hH.oo }
theorem mF {a:Bool}{s:Nat}:∀(n:Nat) (l es:List Value),chunk a s n l=some es->(a=false->s=1)->(es.all λx=>bK a true (au x))=true->
 es.length=n/\l.length=n*s/\(∀x∈es,x.cells.toList.length=s)/\∀(i j:Nat) (x v:Value),es[i]? = some x->x.cells.toList[j]? = some v->l[i*s+j]? = some v
 | 0,l,es,h,_,_=>by
   obtain⟨h1,h2⟩:=aS (show(bif l.isEmpty then some []else none)=some es from h);cases h2;exact⟨rfl,by rw[List.isEmpty_iff.1 h1];simp,λx hx=>by simp at hx,λi j x v hi=>by simp at hi⟩
 | n+1,l,es,h,hs,hone=>by
   obtain⟨h1,h2⟩:=aS (show(bif Nat.ble s l.length then aa (chunk a s n (l.drop s)) (λr=>bK a (some (.agg ⟨l.take s⟩::r)) (aa l.head? (λv=>some (v::r)) none)) none else none)=some es from h);have h1:=cg h1;obtain⟨es',h3,h4⟩:=aD h2;have key:∃x,es=x::es'/\x.cells.toList=l.take s:=by
    cases a with
    | true=>have h4:some (Value.agg ⟨l.take s⟩::es')=some es:=h4;cases h4;exact⟨_,rfl,rfl⟩
    | false=>
      have hs:=hs rfl;subst hs;have h4:aa l.head? (λv=>some (v::es')) none=some es:=h4;cases l with
      | nil=>simp at h1
      | cons v l=>
        have h4:some (v::es')=some es:=h4;cases h4;refine⟨v,rfl,?_⟩;have hv:au v=true:=by
         have:=List.all_eq_true.1 hone v (by simp);exact this
        cases v<;>first | rfl | cases hv
   obtain⟨x,rfl,hx⟩:=key;have hone':(es'.all λx=>bK a true (au x))=true:=by simp only[List.all_cons,Bool.and_eq_true]at hone;exact hone.2
   obtain⟨h5,h6,h7,h8⟩:=mF n _ _ h3 hs hone';refine⟨by simp[h5],?_,λy hy=> ?_,λi j y v hi hj=> ?_⟩
   . rw[List.length_drop]at h6;rw[Nat.succ_mul];omega
   . rcases List.mem_cons.1 hy with rfl | hy
     . rw[hx];simp;omega
     . exact h7 y hy
   . cases i with
     | zero=>
       simp at hi;subst hi;rw[hx,List.getElem?_take]at hj;split at hj
       . simpa using hj
       . cases hj
     | succ i=>
       have hi:es'[i]? = some y:=by simpa using hi
       have:=h8 i j y v hi hj;rw[List.getElem?_drop]at this;rw[Nat.succ_mul,<- this];congr 1;omega
def eG (P:Program)(W:World)(φ:bZ)(H:T OB)(nx:Nat)(w:World)(φ':bZ)(H':T OB)(nx':Nat):Prop:=
 φ.le φ'/\HR P W φ' (hp H') w/\φ'.length=nx'/\dW φ φ' (hp H) (hp H')/\nx<=nx'
theorem eG.refl (hH:HR P W φ (hp H) w)(bM:φ.length=nx):eG P W φ H nx w φ H nx:=⟨φ.le_refl,hH,bM,dW.refl _ _,Nat.le_refl _⟩
theorem eG.trans {φ'':bZ}{H'':T OB}{nx'':Nat}(h:eG P W φ H nx w φ' H' nx')(h':eG P W φ' H' nx' w φ'' H'' nx''):eG P W φ H nx w φ'' H'' nx'':=
 ⟨bZ.le_trans h.1 h'.1,h'.2.1,h'.2.2.1,h.2.2.2.1.trans h'.2.2.2.1,Nat.le_trans h.2.2.2.2 h'.2.2.2.2⟩
theorem ir (hH:HR P W φ (hp H) w)(bM:φ.length=nx){t:TypeId}{v v':Value}(hv:VR φ v v'){g:Value->T OB->Nat->Q}(h:(gz P t v H nx g).run O=some r):
 ∃φ' u H' nx',(g u H' nx').run O=some r/\VR φ' u v'/\eG P W φ H nx w φ' H' nx':=by
 unfold gz at h;split at h
 case h_3=>exact⟨φ,v,H,nx,h,hv,.refl hH bM⟩
 case h_2=>
  rename_i e hu;split at h
  . rename_i b;obtain⟨x,hx,h1⟩:=bx h;rw[aY,a5]at h1;obtain⟨en,hb,_,rfl⟩:=hv.dC;unfold Mb at hx;obtain⟨m,tr,el,hg,h2⟩:=og hx;obtain⟨s,hs,h3⟩:=aD h2;obtain⟨a,ha,h4⟩:=aD h3;obtain⟨h5,h6⟩:=aS h4;obtain⟨l,hl,h7⟩:=aD h6;have hms:=beq_eq h5;have key:∃u,x=ai u/\u.cells.toList=l:=by
     cases a with
     | true=>
       have h7:some (ai (.agg ⟨l⟩))=some x:=h7;cases h7;exact⟨_,rfl,rfl⟩
     | false=>
       obtain⟨u,hu',h8⟩:=aD (show aa l.head? (λv=>bif Nat.beq l.length 1&&au v then some (ai v)else none) none=some x from h7);obtain⟨h9,h10⟩:=aS h8;cases h10;simp only[Bool.and_eq_true]at h9;have hl1:=beq_eq h9.1;refine⟨u,rfl,?_⟩;have hcell:u.cells.toList=[u]:=by cases u<;>first | rfl | cases h9.2
       rw[hcell];cases l with
       | nil=>cases hu'
       | cons y l=>
         cases hu';cases l with
         | nil=>rfl
         | cons _ _=>simp at hl1
    obtain⟨u,rfl,hul⟩:=key;have hg':hp H b=some (.cells m tr el):=hg;obtain⟨c,el',hrow,hrsz,hrn,oA⟩:=hH.cells hg' hb;obtain⟨q1,q2⟩:=kf oA hl (by omega) (by omega);have hkill:HR P W φ (hp (set H (bits b) (some .dead))) w:=by rw[bu];exact hH.kill hg' hb
    have hgh:=hkill.ghost (e:=⟨en.r,en.sz,en.es,some c⟩) rfl hrow (λk x ob hk hgk hlk hr=>by
     rw[bu]at hgk
     by_cases hkb:k=b
     . subst hkb;rw[cf]at hgk;cases hgk;cases hlk
     . rw[aX _ hkb]at hgk;exact hkb (hH.inj k b _ _ x en hk hb hgk hg' hlk rfl hr))
    refine⟨_,_,_,_,h1,?_,cc φ _,hgh,by simp[bM],?_,by omega⟩
    . refine VR.ep (e:=⟨en.r,en.sz,en.es,some c⟩) (c:=c) (dK φ _) rfl (by rw[hul,q2];omega) (λj a b' hja hjb=> ?_);rw[hul]at hja;have hjl:=(List.getElem?_eq_some_iff.1 hja).1;refine VR.mono (cc φ _) (q1.at_ j a b' hja ?_);rw[List.drop_zero,List.getElem?_take,if_pos (by omega),Array.getElem?_toList];rw[Nat.zero_add]at hjb;exact hjb
    . intro k hk;refine⟨?_,?_⟩
      . rw[List.getElem?_append_left (List.getElem?_eq_some_iff.1 hk).1];exact hk
      . rw[bu,aX];intro q;subst q;rw[hb]at hk;cases hk
  . exact⟨φ,v,H,nx,h,hv,.refl hH bM⟩
 rename_i e hu;split at h
 . rename_i b off n cp;obtain⟨hcp,h⟩:=jL h;simp only[Bool.or_eq_true]at hcp;obtain⟨x,hx,h1⟩:=bx h;rw[aY,a5]at h1;obtain⟨en,c',hb,_,rfl,hcap⟩:=hv.dS;unfold Bb at hx;obtain⟨m,tr,el,hg,h2⟩:=og hx;obtain⟨s,hs,h3⟩:=aD h2;obtain⟨a,ha,h4⟩:=aD h3;obtain⟨h5,h6⟩:=aS h4;obtain⟨l,hl,h7⟩:=aD h6;obtain⟨es,hes,h8⟩:=aD h7;obtain⟨h9,h10⟩:=aS h8;cases h10;simp only[Bool.and_eq_true,Bool.or_eq_true]at h5;have hle:=cg h5.1.1;have hs1:a=false->s=1:=λq=>by
    rcases h5.2 with q' | q'
    . rw[q]at q';cases q'
    . exact beq_eq q'
   obtain⟨g1,g2,g3,g4⟩:=mF n l es hes hs1 h9;have hg':hp H b=some (.cells m tr el):=hg;obtain⟨c,el',hrow,hrsz,hrn,oA⟩:=hH.cells hg' hb;obtain⟨q1,q2⟩:=kf oA hl hle (by omega);have hcl:n<=c':=by
    rcases hcap with⟨q,rfl⟩ | ⟨_,q,_⟩
    . rcases hcp with h' | h'
      . exact absurd (beq_eq h') q
      . exact cg h'
    . exact q
   have hkill:HR P W φ (hp (set H (bits b) (some .dead))) w:=by rw[bu];exact hH.kill hg' hb
   have hgh:=hkill.ghost (e:=⟨en.r,en.sz,en.es,some c⟩) rfl hrow (λk x ob hk hgk hlk hr=>by
    rw[bu]at hgk
    by_cases hkb:k=b
    . subst hkb;rw[cf]at hgk;cases hgk;cases hlk
    . rw[aX _ hkb]at hgk;exact hkb (hH.inj k b _ _ x en hk hb hgk hg' hlk rfl hr))
   have hro:=hgh.OU (b:=b) (n:=m) (t:=tr) (e:=en) (by rw[bu,cf]) (by rw[List.getElem?_append_left (List.getElem?_eq_some_iff.1 hb).1];exact hb) (.inr ⟨_,_,c,dK φ _,rfl,rfl,by omega,oA.mono (cc φ _)⟩);rw[bu,kR,<- bu]at hro;rw[show ON (H.get (bits b))= .ro m tr by rw[hg];rfl]at h1;refine⟨_,_,_,_,h1,?_,cc φ _,hro,by simp[bM],?_,by omega⟩
   . rw[<- g1];have hlen:es.length*s=n*s:=by rw[g1]
     refine VR.row (e:=⟨en.r,en.sz,en.es,some c⟩) (c:=c) (dK φ _) rfl g3 (λ_=> ?_) (by omega) (λi j x u u' hi hj hc=> ?_)
     . rw[hlen];omega
     . have h11:=g4 i j x u hi hj;have hlt:=(List.getElem?_eq_some_iff.1 h11).1;refine VR.mono (cc φ _) (q1.at_ (i*s+j) u u' h11 ?_);rw[List.getElem?_take,if_pos (by omega),List.getElem?_drop,Array.getElem?_toList,<- Nat.add_assoc];exact hc
   . intro k hk;refine⟨?_,?_⟩
     . rw[List.getElem?_append_left (List.getElem?_eq_some_iff.1 hk).1];exact hk
     . rw[bu,aX];intro q;subst q;rw[hb]at hk;cases hk
 . rename_i n c;obtain⟨h1,h2⟩:=jL h;simp only[Bool.and_eq_true]at h1;obtain⟨s,hs,h3⟩:=bx h2;have e1:=beq_eq h1.1;have e2:=beq_eq h1.2;subst e1 e2;have:=hv.aB rfl;subst this;exact⟨φ,_,H,nx,h3,.pT s,.refl hH bM⟩
 . exact⟨φ,v,H,nx,h,hv,.refl hH bM⟩
theorem oP:∀(fs:List Field) (cs cs':List Value) (φ:bZ) (H:T OB) (nx:Nat),HR P W φ (hp H) w->φ.length=nx->LR φ cs cs'->∀{g:List Value->T OB->Nat->Q},(Fj P fs cs H nx g).run O=some r->
 ∃φ' us H' nx',(g us H' nx').run O=some r/\LR φ' us cs'/\eG P W φ H nx w φ' H' nx'
 | [],cs,cs',φ,H,nx,hH,bM,hl,g,h=>⟨φ,cs,H,nx,h,hl,.refl hH bM⟩
 | f::fs,cs,cs',φ,H,nx,hH,bM,hl,g,h=>by
   obtain⟨v,hv,h1⟩:=bx (show(aa cs[f.offset]? (λv=>gz P f.type v H nx λv H nx=>Fj P fs (cs.set f.offset v) H nx g) .bad).run O=some r from h);obtain⟨v',hv',hvr⟩:=hl.get hv;obtain⟨φ1,u,H1,aJ,h2,h3,h4⟩:=ir hH bM hvr h1;have hl1:LR φ1 (cs.set f.offset u) cs':=by
    have:=(hl.mono h4.1).set f.offset h3
    have e:cs'.set f.offset v'=cs':=by
     refine List.ext_getElem? λi=> ?_;rw[List.getElem?_set]
     by_cases hi:f.offset=i
     . subst hi;rw[if_pos rfl,hv',if_pos (List.getElem?_eq_some_iff.1 hv').1]
     . rw[if_neg hi]
    rw[e]at this;exact this
   obtain⟨φ2,us,H2,nx2,h5,h6,h7⟩:=oP fs _ cs' φ1 H1 aJ h4.2.1 h4.2.2.1 hl1 h2;exact⟨φ2,us,H2,nx2,h5,h6,h4.trans h7⟩
theorem wF (hH:HR P W φ (hp H) w)(bM:φ.length=nx){t:TypeId}{v v':Value}(hv:VR φ v v'){g:Value->T OB->Nat->Q}(h:(fH P t v H nx g).run O=some r):
 ∃φ' u H' nx',(g u H' nx').run O=some r/\VR φ' u v'/\eG P W φ H nx w φ' H' nx':=by
 unfold fH at h;split at h
 . split at h
   . obtain⟨c',rfl,h1⟩:=hv.jJ;obtain⟨φ',us,H',nx',h2,h3,h4⟩:=oP _ _ _ _ _ _ hH bM h1 h;exact⟨φ',_,H',nx',h2,h3.agg,h4⟩
   . cases h
 . exact ir hH bM hv h
def CB (P:Program)(W:World)(O:bI->Option Rt)(w:World)(one:Value->T OB->Nat->(Value->T OB->Nat->Q)->Q):Prop:=
 ∀(v v':Value) (φ:bZ) (H:T OB) (nx:Nat) (r:Rt),HR P W φ (hp H) w->φ.length=nx->VR φ v v'->∀{g:Value->T OB->Nat->Q},(one v H nx g).run O=some r->
  ∃φ' u H' nx',(g u H' nx').run O=some r/\VR φ' u v'/\eG P W φ H nx w φ' H' nx'
theorem kn {one:TypeId->Value->T OB->Nat->(Value->T OB->Nat->Q)->Q}(ho:∀t,CB P W O w (one t)):∀(l:List (Nat×TypeId)) (cs cs':List Value) (φ:bZ) (H:T OB) (nx:Nat),HR P W φ (hp H) w->φ.length=nx->LR φ cs cs'->∀{g:List Value->T OB->Nat->Q},(Bc one l cs H nx g).run O=some r->
 ∃φ' us H' nx',(g us H' nx').run O=some r/\LR φ' us cs'/\us.length=cs.length/\eG P W φ H nx w φ' H' nx'
 | [],cs,cs',φ,H,nx,hH,bM,hl,g,h=>⟨φ,cs,H,nx,h,hl,rfl,.refl hH bM⟩
 | p::l,cs,cs',φ,H,nx,hH,bM,hl,g,h=>by
   obtain⟨v,hv,h1⟩:=bx (show(aa cs[p.1]? (λv=>one p.2 v H nx λv H nx=>Bc one l (cs.set p.1 v) H nx g) .bad).run O=some r from h);obtain⟨v',hv',hvr⟩:=hl.get hv;obtain⟨φ1,u,H1,aJ,h2,h3,h4⟩:=ho p.2 v v' φ H nx r hH bM hvr h1;have hl1:LR φ1 (cs.set p.1 u) cs':=by
    have:=(hl.mono h4.1).set p.1 h3
    have e:cs'.set p.1 v'=cs':=by
     refine List.ext_getElem? λi=> ?_;rw[List.getElem?_set]
     by_cases hi:p.1=i
     . subst hi;rw[if_pos rfl,hv',if_pos (List.getElem?_eq_some_iff.1 hv').1]
     . rw[if_neg hi]
    rw[e]at this;exact this
   obtain⟨φ2,us,H2,nx2,h5,h6,h8,h7⟩:=kn ho l _ cs' φ1 H1 aJ h4.2.1 h4.2.2.1 hl1 h2;exact⟨φ2,us,H2,nx2,h5,h6,by rw[h8,List.length_set],h4.trans h7⟩
def Qz (φ:bZ)(s:Nat)(c:Array Value)(o:Nat)(es:List Value):Prop:=
 (∀x∈es,x.cells.toList.length=s)/\∀(i j:Nat) (x v v':Value),es[i]? = some x->x.cells.toList[j]? = some v->c[o+i*s+j]? = some v'->VR φ v v'
theorem oQ {one:TypeId->Value->T OB->Nat->(Value->T OB->Nat->Q)->Q}(ho:∀t,CB P W O w (one t))(offs:List (Nat×TypeId)){s:Nat}{c:Array Value}:∀(es:List Value) (o:Nat) (φ:bZ) (H:T OB) (nx:Nat),HR P W φ (hp H) w->φ.length=nx->Qz φ s c o es->o+es.length*s<=c.size->
 ∀{g:List Value->T OB->Nat->Q},(je (jd one offs) es H nx g).run O=some r->
 ∃φ' us H' nx',(g us H' nx').run O=some r/\Qz φ' s c o us/\us.length=es.length/\eG P W φ H nx w φ' H' nx'
 | [],o,φ,H,nx,hH,bM,hl,hn,g,h=>⟨φ,[],H,nx,h,⟨λx hx=>by simp at hx,λi j x v v' hi=>by simp at hi⟩,rfl,.refl hH bM⟩
 | x::es,o,φ,H,nx,hH,bM,hl,hn,g,h=>by
   have h:(jd one offs x H nx λv H nx=>je (jd one offs) es H nx λl H nx=>g (v::l) H nx).run O=some r:=h;have hxs:=hl.1 x (by simp);rw[List.length_cons,Nat.add_mul,Nat.one_mul]at hn;have step:∃φ1 u H1 aJ,(je (jd one offs) es H1 aJ λl H nx=>g (u::l) H nx).run O=some r/\eG P W φ H nx w φ1 H1 aJ/\u.cells.toList.length=s/\∀(j:Nat) (v v':Value),u.cells.toList[j]? = some v->c[o+j]? = some v'->VR φ1 v v':=by
    have hx0:∀(j:Nat) (v v':Value),x.cells.toList[j]? = some v->c[o+j]? = some v'->VR φ v v':=λj v v' hj hc=>hl.2 0 j x v v' rfl hj (by rw[Nat.zero_mul,Nat.add_zero];exact hc)
    by_cases hag:∃cs,x= .agg ⟨cs⟩
    . obtain⟨cs,rfl⟩:=hag;have hlen:((c.toList.drop o).take s).length=s:=by simp;omega
      have hcs:LR φ cs ((c.toList.drop o).take s):=⟨by rw[hlen];exact hxs,λj v v' hj hj'=>hx0 j v v' hj (by
       have hjl:=(List.getElem?_eq_some_iff.1 hj').1;rw[List.getElem?_take,if_pos (by omega),List.getElem?_drop,Array.getElem?_toList]at hj';exact hj')⟩
      obtain⟨φ1,us,H1,aJ,h2,h3,h8,h4⟩:=kn ho offs cs _ φ H nx hH bM hcs h;refine⟨φ1,.agg ⟨us⟩,H1,aJ,h2,h4,by rw[<- hxs];exact h8,λj v v' hj hc=>h3.at_ j v v' hj ?_⟩;have hjl:j<us.length:=(List.getElem?_eq_some_iff.1 hj).1;have hxs':cs.length=s:=hxs;rw[List.getElem?_take,if_pos (by omega),List.getElem?_drop,Array.getElem?_toList];exact hc
    . have e:jd one offs x H nx (λv H nx=>je (jd one offs) es H nx λl H nx=>g (v::l) H nx)=je (jd one offs) es H nx λl H nx=>g (x::l) H nx:=by
       cases x<;>first | rfl | exact absurd ⟨_,rfl⟩ hag
      rw[e]at h;exact⟨φ,x,H,nx,h,.refl hH bM,hxs,hx0⟩
   obtain⟨φ1,u,H1,aJ,h2,h4,hu,hu'⟩:=step;obtain⟨φ2,us,H2,nx2,h5,h6,h8,h7⟩:=oQ ho offs es (o+s) φ1 H1 aJ h4.2.1 h4.2.2.1 ⟨λy hy=>hl.1 y (by simp[hy]),λi j y v v' hi hj hc=>(hl.2 (i+1) j y v v' hi hj (by rw[Nat.add_mul,Nat.one_mul];rw[<- hc];congr 1;omega)).mono h4.1⟩ (by omega) h2;refine⟨φ2,u::us,H2,nx2,h5,⟨λy hy=> ?_,λi j y v v' hi hj hc=> ?_⟩,by rw[List.length_cons,h8,List.length_cons],h4.trans h7⟩
   . rcases List.mem_cons.1 hy with rfl | hy
     . exact hu
     . exact h6.1 y hy
   . cases i with
     | zero=>
       cases hi;rw[Nat.zero_mul,Nat.add_zero]at hc;exact(hu' j v v' hj hc).mono h7.1
     | succ i=>
       refine h6.2 i j y v v' hi hj ?_;rw[Nat.add_mul,Nat.one_mul]at hc;rw[<- hc];congr 1;omega
theorem ko:∀(d:Nat) (t:TypeId),CB P W O w (ij P d t)
 | 0,t=>λv v' φ H nx r hH bM hv g h=>ir hH bM hv h
 | d+1,t=>λv v' φ H nx r hH bM hv g h=>by
   obtain⟨φ1,u,H1,aJ,h1,h2,h3⟩:=ir hH bM hv (show(gz P t v H nx λu H nx=>bif tY v then(match P.underlying t with | some (.slice e)=>fc u (λs es=>je (jd (ij P d) (di P 4 e)) es H nx λes H nx=>bif es.all λx=>Nat.beq x.cells.toList.length s then g (bc s es) H nx else .bad) .bad | _=>g u H nx)else g u H nx).run O=some r from h);cases hb:tY v with
   | false=>
     rw[hb]at h1;exact⟨φ1,u,H1,aJ,h1,h2,h3⟩
   | true=>
     rw[hb,cond_true]at h1;split at h1
     . rename_i e _;obtain⟨s,es,rfl,h4⟩:∃s es,u=bc s es/\(je (jd (ij P d) (di P 4 e)) es H1 aJ λes H nx=>bif es.all λx=>Nat.beq x.cells.toList.length s then g (bc s es) H nx else .bad).run O=some r:=by
        unfold fc at h1;split at h1
        . exact⟨_,_,rfl,h1⟩
        . cases h1
       rcases h2.gg with⟨rfl,_⟩ | ⟨k,o,c',en,c,g1,g2,g3,g4,g5,g6,rfl⟩
       . exact⟨φ1,_,H1,aJ,h4,h2,h3⟩
       . cases es with
         | nil=>exact⟨φ1,_,H1,aJ,h4,h2,h3⟩
         | cons x es=>
           obtain⟨φ2,us,H2,nx2,k1,k2,k3,k4⟩:=oQ (λt=>ko d t) _ (x::es) o φ1 H1 aJ h3.2.1 h3.2.2.1 ⟨g3,g6⟩ (g4 (by simp)) h4;obtain⟨k5,k6⟩:=jL k1;refine⟨φ2,_,H2,nx2,k6,?_,h3.trans k4⟩;rw[<- k3];exact VR.row (k4.1 _ _ g1) g2 k2.1 (λ_=>by rw[k3];exact g4 (by simp)) (by rw[k3];exact g5) k2.2
     . exact⟨φ1,u,H1,aJ,h1,h2,h3⟩
theorem wG (hH:HR P W φ (hp H) w)(bM:φ.length=nx){t:TypeId}{v v':Value}(hv:VR φ v v'){g:Value->T OB->Nat->Q}(h:(bG P t v H nx g).run O=some r):
 ∃φ' u H' nx',(g u H' nx').run O=some r/\VR φ' u v'/\eG P W φ H nx w φ' H' nx':=by
 unfold bG at h;cases hb:kb v with
 | false=>
   rw[hb]at h;exact ko 100000 t v v' φ H nx r hH bM hv h
 | true=>
   rw[hb,cond_true]at h;cases v<;>first | cases hb | skip
   rename_i cs;obtain⟨cs⟩:=cs;obtain⟨c',rfl,h1⟩:=hv.jJ;obtain⟨φ',us,H',nx',h2,h3,_,h4⟩:=kn (λt=>ko 100000 t) _ _ _ _ _ _ hH bM h1 h;exact⟨φ',_,H',nx',h2,h3.agg,h4⟩
theorem kp (ts:Array TypeId):∀(l:List Nat) (vs vs':List Value) (φ:bZ) (H:T OB) (nx:Nat),HR P W φ (hp H) w->φ.length=nx->LR φ vs vs'->∀{g:List Value->T OB->Nat->Q},(tZ P ts l vs H nx g).run O=some r->
 ∃φ' us H' nx',(g us H' nx').run O=some r/\LR φ' us vs'/\eG P W φ H nx w φ' H' nx'
 | [],cs,cs',φ,H,nx,hH,bM,hl,g,h=>⟨φ,cs,H,nx,h,hl,.refl hH bM⟩
 | i::l,cs,cs',φ,H,nx,hH,bM,hl,g,h=>by
   have go:∀(m:Nat) (t:TypeId) (v v':Value),cs[m]? = some v->cs'[m]? = some v'->(∃φ1 u H1 aJ,(tZ P ts l (cs.set m u) H1 aJ g).run O=some r/\VR φ1 u v'/\eG P W φ H nx w φ1 H1 aJ)->
    ∃φ' us H' nx',(g us H' nx').run O=some r/\LR φ' us cs'/\eG P W φ H nx w φ' H' nx':=by
    intro m t v v' hv hv' ⟨φ1,u,H1,aJ,h2,h3,h4⟩;have hl1:LR φ1 (cs.set m u) cs':=by
     have:=(hl.mono h4.1).set m h3
     have e:cs'.set m v'=cs':=by
      refine List.ext_getElem? λj=> ?_;rw[List.getElem?_set]
      by_cases hi:m=j
      . subst hi;rw[if_pos rfl,hv',if_pos (List.getElem?_eq_some_iff.1 hv').1]
      . rw[if_neg hi]
     rw[e]at this;exact this
    obtain⟨φ2,us,H2,nx2,h5,h6,h7⟩:=kp ts l _ cs' φ1 H1 aJ h4.2.1 h4.2.2.1 hl1 h2;exact⟨φ2,us,H2,nx2,h5,h6,h4.trans h7⟩
   have h:(bif Nat.ble 1000 i then aa ts[i-1000]? (λt=>aa cs[i-1000]? (λv=>bG P t v H nx λv H nx=>tZ P ts l (cs.set (i-1000) v) H nx g) .bad) .bad else
    aa ts[i]? (λt=>aa cs[i]? (λv=>fH P t v H nx λv H nx=>tZ P ts l (cs.set i v) H nx g) .bad) .bad:Q).run O=some r:=h
   cases hb:Nat.ble 1000 i with
   | true=>
     rw[hb,cond_true]at h;obtain⟨t,_,h0⟩:=bx h;obtain⟨v,hv,h1⟩:=bx h0;obtain⟨v',hv',hvr⟩:=hl.get hv;exact go _ t v v' hv hv' (wG hH bM hvr h1)
   | false=>
     rw[hb,cond_false]at h;obtain⟨t,_,h0⟩:=bx h;obtain⟨v,hv,h1⟩:=bx h0;obtain⟨v',hv',hvr⟩:=hl.get hv;exact go _ t v v' hv hv' (wF hH bM hvr h1)
def Oz (tmps:Array Value):ResultVar->Sem Value
 | .tmp t=>pure (tmps.getD t undef)
 | .cell a t=>do loadVar t (<- asAddr (tmps.getD a undef))
theorem kq (hH:HR P W φ (hp H) w)(htr:uB φ (λ_=>False) tm tmps):∀(l:List ResultVar) {g:List Value->Q},(Bd P H tm l g).run O=some r->
 ∃vs vs',(g vs).run O=some r/\LR φ vs vs'/\(l.mapM (Oz tmps)).run P w= .ok vs' w
 | [],g,h=>⟨[],[],h,.nil,rfl⟩
 | .tmp t::l,g,h=>by
   obtain⟨v,hv,h1⟩:=bx (show(aa (tm.get (bits t)) (λv=>Bd P H tm l λvs=>g (v::vs)) .bad).run O=some r from h);obtain⟨us,us',h2,h3,h4⟩:=kq hH htr l h1;obtain⟨v',h5,h6⟩:=(htr t v hv).resolve_left id;refine⟨v::us,v'::us',h2,.cons h6 h3,?_⟩;have e:tmps.getD t undef=v':=by simp[Array.getD_eq_getD_getElem?,h5]
   simp only[List.mapM_cons,Oz,Sem.run_bind,Sem.run_pure,Result.andThen_ok,e,h4]
 | .cell a t::l,g,h=>by
   obtain⟨v,hv,h1⟩:=bx (show(aa (ae P H t (tm.get (bits a))) (λv=>Bd P H tm l λvs=>g (v::vs)) .bad).run O=some r from h);obtain⟨us,us',h2,h3,h4⟩:=kq hH htr l h1;cases ha:tm.get (bits a)with
   | none=>rw[ha]at hv;cases hv
   | some pv=>
     rw[ha]at hv;obtain⟨pv',h5,h6⟩:=(htr a pv ha).resolve_left id;obtain⟨v',ad,h7,h8,h9⟩:=kM hH (y:=pv') (λu hu=>by cases hu;exact h6) hv;subst h7;refine⟨v::us,v'::us',h2,.cons h8 h3,?_⟩;have e1:tmps.getD a undef= .pointer (some ad):=by simp[Array.getD_eq_getD_getElem?,h5]
     simp only[List.mapM_cons,Oz,Sem.run_bind,e1,asAddr,Sem.run_pure,Result.andThen_ok,h9,h4]
theorem FF {vs vs':List Value}(h:LR φ vs vs'):VR φ (Md vs) (if h:vs'.toArray.size=1 then vs'.toArray[0]else .tuple vs'.toArray):=by
 cases vs with
 | nil=>cases h.jI;exact .flat _ rfl
 | cons a l=>
   obtain⟨a',l',rfl,h4,h5⟩:=h.inv;cases l with
   | nil=>cases h5.jI;exact h4
   | cons b m=>
     obtain⟨b',m',rfl,_,_⟩:=h5.inv;rw[dif_neg (by simp)];exact h.tuple
theorem eG.fin (h:eG P W φ H nx w φ' H' nx'){rc:Bool}(h':cH P W kd fn lo cs0 rc φ' H' r fr w):cH P W kd fn lo cs0 rc φ H r fr w:=
 h'.steps (.refl _ _) h.1 λk _ q=>h.2.2.2.1 k q
theorem FG {pl:ig}(hH:HR P W φ (hp H) w)(bM:φ.length=nx)(hkd:c.kd=kd)(hfn:c.fn=fn)(htr:uB φ (λ_=>False) tm tmps)(h:(JL P pl c tm H nx).run O=some r):
 cH P W kd fn lo cs0 c.rc φ H r { cQ (bS c []) tmps todo with mode:= .returning } w:=by
 unfold JL at h;obtain⟨fd,hfd,h1⟩:=bx h;obtain⟨vs,vs',h2,h3,h4⟩:=kq hH htr _ h1;obtain⟨φ',us,H',nx',h5,h6,h7⟩:=kp fd.resultTypes _ _ _ φ H nx hH bM h3 h2;have h5:=ng h5;subst h5;have h8:(results fd tmps).run P w= .ok (if h:vs'.toArray.size=1 then vs'.toArray[0]else .tuple vs'.toArray) w:=by
  have e:results fd tmps=(do let vs <- fd.results.mapM (Oz tmps);pure (if h:vs.size=1 then vs[0]else .tuple vs)):=rfl;rw[e,Sem.run_bind,Array.mapM_eq_mapM_toList,Sem.run_map,h4];rfl
 refine h7.fin ⟨φ',w,_,.refl _ _,φ'.le_refl,h7.2.1,h7.2.2.1,λk _ q=>⟨q,rfl⟩,?_,?_,_,FF h6,rfl,rfl,fd,?_,h8⟩
 . show kindOf c.kd=kindOf kd;rw[hkd]
 . exact hfn
 . exact hfd
end
section
variable {P:Program}{W w w' w1:World}{f fn:FuncId}{cs cs0:List Frame}{r r1:Rt}{fr fr' fr1:Frame}{φ φ' φ1:bZ}{H H' H1:T OB}{nx nx' aJ nt lo hi:Nat}{tm:T Value}{tmps:Array Value}{ops:Array Oper}
 {todo k:List Item} {c:Cg} {ds:List Deferred} {kd:Bool} {O:bI->Option Rt} {pl:ig}
structure Fx (P:Program)(W:World)(lo:Nat)(cs0:List Frame)(c:Cg)(φ:bZ)(H:T OB)(nx:Nat)(tmps:Array Value)(ds:List Deferred)(w:World):Prop where
 hH:HR P W φ (hp H) w
 bM:φ.length=nx
 jg:lo<=nx
 iV:tmps.size=c.nt
 rJ:Il P φ c.df ds
 oA:wC φ c.kd c.rp c.rc cs0
def k8 (P:Program)(W:World)(c:Cg)(tm:T Value)(todo:List Item)(H:T OB)(nx:Nat)(r:Rt):Prop:=
 ∀φ w lo tmps ds cs0,Fx P W lo cs0 c φ H nx tmps ds w->uB φ (λ_=>False) tm tmps->cH P W c.kd c.fn lo cs0 c.rc φ H r (cQ (bS c ds) tmps todo) w
def J5 (P:Program)(W:World)(f:FuncId)(args:List Value)(kd:Bool)(rp:Option Value)(H:T OB)(nx:Nat)(r:Rt):Prop:=
 ∀φ w args' cs0,HR P W φ (hp H) w->φ.length=nx->LR φ args args'->wC φ kd rp false cs0->cH P W kd f nx cs0 false φ H r (Frame.enter P f args'.toArray (kindOf kd)) w
def CC (P:Program)(W:World)(q:bI)(r:Rt):Prop:=match q with
 | .call f args kd rp H nx=>J5 P W f args kd rp H nx r
 | .at c tm todo H nx=>k8 P W c tm todo H nx r
def iQ (P:Program)(W:World)(O:bI->Option Rt):Prop:=∀q r,O q=some r->CC P W q r
def xY (P:Program)(W:World)(O:bI->Option Rt)(K:Kt)(todo:List Item):Prop:=∀c tm H nx r,(K c tm H nx).run O=some r->k8 P W c tm todo H nx r
theorem k8.step1 {todo':List Item}(hs:∀(ds:List Deferred) (tmps:Array Value) (cs:List Frame) (w:World),Steps P (lone (cQ (bS c ds) tmps todo) cs w) (lone (cQ (bS c ds) tmps todo') cs w))(h:k8 P W c tm todo' H nx r):
 k8 P W c tm todo H nx r:=λφ w lo tmps ds cs0 x htr=>(h φ w lo tmps ds cs0 x htr).step1 (hs _ _ _ _)
theorem uK (hk:∀k,k<φ.length->φ[k]? = some none->φ'[k]? = some none/\hp H' k=hp H k):dW φ φ' (hp H) (hp H'):=λk q=>hk k (List.getElem?_eq_some_iff.1 q).1 q
inductive OA (φ:bZ):Mq->Option Value->Prop
 | ret:OA φ .ret none
 | eR {v v':Value} (h:VR φ v v'):OA φ (.eR v) (some v')
theorem Bv (m:Option Value):eF m ≠ .run:=by cases m<;>simp[eF]
theorem ni (hO:iQ P W O):∀(l:List (FuncId×List Value)) (m:Mq) (mv:Option Value) (φ:bZ) (H:T OB) (nx:Nat) (ds:List Deferred) (w:World),HR P W φ (hp H) w->φ.length=nx->lo<=nx->Il P φ l ds->OA φ m mv->
 uB φ (λ_=>False) tm tmps->(kK P pl c tm l m H nx).run O=some r->cH P W c.kd c.fn lo cs0 c.rc φ H r { cQ (bS c ds) tmps todo with mode:=eF mv } w
 | [],m,mv,φ,H,nx,ds,w,hH,bM,jg,rJ,hm,htr,h=>by
   cases rJ;have h:(v8 P pl c tm m H nx).run O=some r:=h;unfold v8 at h;cases hm with
   | ret=>exact FG hH bM rfl rfl htr h
   | @eR v v' hv=>
     obtain⟨fd,hfd,h⟩:=bx h;have h:=ng h;subst h;exact⟨φ,w,_,.refl _ _,φ.le_refl,hH,bM,λk _ q=>⟨q,rfl⟩,rfl,rfl,v',hv,rfl,rfl,fd,hfd⟩
 | (g,args)::l,m,mv,φ,H,nx,ds,w,hH,bM,jg,rJ,hm,htr,h=>by
   cases rJ with
   | @cons _ d' _ ds' hd hl=>
     obtain⟨a',cap',rfl,hLR,hok⟩:=hd;obtain⟨r1,h1,h2⟩:=kY (show(Q.ask (.call g args true (JK m) H nx) λr=>Me m r (kK P pl c tm l)).run O=some r from h);have hinv:(invoke (.fn (.func g) ⟨cap'⟩) a').run P w= .ok (.enter g (a'++⟨cap'⟩)) w:=kW hok _ _;have e:(a'++⟨cap'⟩:Array Value)=(a'.toList++cap').toArray:=Array.ext' (by simp);have hst:=step_defer (P:=P) (fr:={ cQ (bS c ({ target:= .fn (.func g) ⟨cap'⟩,args:=a' }::ds')) tmps todo with mode:=eF mv }) (cs:=du c.rc cs0) (Bv mv) rfl rfl hinv;rw[e]at hst;have hrcv:wC φ true (JK m) false ({ cQ (bS c ds') tmps todo with mode:=eF mv }::du c.rc cs0):=λ_=>by
      cases hm with
      | ret=>exact λF hF=>(fA (C:={ cQ (bS c ds') tmps todo with mode:=eF none }) (cs:=du c.rc cs0) hF).trans rfl
      | eR hv=>exact⟨rfl,_,_,_,[],rfl,rfl,hv⟩
     obtain⟨φ1,w1,frl,s1,hle,hH1,hl1,hk1,hkk,hff,ho1⟩:=hO _ _ h1 φ w _ _ hH bM hLR hrcv;unfold Me at h2;cases hr1:r1.o with
     | eR v=>rw[hr1]at h2;cases h2
     | ret v=>
       rw[hr1]at h2 ho1;obtain⟨v',hv',hgo⟩:=ho1;have h2:(kK P pl c tm l (bK r1.rc .ret m) r1.H r1.nx).run O=some r:=h2;have hlen:=oO hle (uK (λk hk q=>hk1 k (by rw[<- bM];exact hk) q));have back:∃mv1,OA φ1 (bK r1.rc .ret m) mv1/\Steps P (lone frl (du r1.rc ({ cQ (bS c ds') tmps todo with mode:=eF mv }::du c.rc cs0)) w1) (lone { cQ (bS c ds') tmps todo with mode:=eF mv1 } (du c.rc cs0) w1):=by
        cases oA:r1.rc with
        | false=>
          cases hm with
          | ret=>exact⟨none,.ret,.one (step_going_returned (c:={ cQ (bS c ds') tmps todo with mode:=eF none }) hkk hgo)⟩
          | eR hv=>exact⟨some _,.eR (hv.mono hle),.one (step_going_returned (c:={ cQ (bS c ds') tmps todo with mode:=eF (some _) }) hkk hgo)⟩
        | true=>
          refine⟨none,.ret,?_⟩;cases hm with
          | ret=>exact .one (step_going_returned (c:={ cQ (bS c ds') tmps todo with mode:=eF none }) hkk hgo)
          | @eR u u' hv=>exact .one (step_going_returned (c:={ cQ (bS c ds') tmps todo with mode:= .panicking [{ v:=u',recovered:=true }] }) hkk hgo)
       obtain⟨mv1,hm1,hs1⟩:=back;have ih:=ni hO l (bK r1.rc .ret m) mv1 φ1 r1.H r1.nx ds' w1 hH1 hl1 (by omega) (hl.mono hle) hm1 (htr.mono hle) h2;exact ih.steps (.head hst (s1.trans hs1)) hle λk hk q=>hk1 k (by omega) q
theorem l4 (hO:iQ P W O)(ht:todo=[]\/∃k,todo= .code .ret::k):xY P W O (rq P pl) todo:=λc tm H nx r h φ w lo tmps ds cs0 x htr=>by
 have hs:Steps P (lone (cQ (bS c ds) tmps todo) (du c.rc cs0) w) (lone { cQ (bS c ds) tmps todo with mode:=eF none } (du c.rc cs0) w):=by
  rcases ht with rfl | ⟨k,rfl⟩
  . exact .one (step_end (b:=cQ (bS c ds) #[] []) (a:=⟨tmps,ds⟩))
  . exact .one (step_ret (b:=cQ (bS c ds) #[] []) (a:=⟨tmps,ds⟩))
 exact(ni hO c.df .ret none φ H nx ds w x.hH x.bM x.jg x.rJ .ret htr h).step1 hs
theorem xZ (hO:iQ P W O){g:FuncId}{args args':List Value}(h1:O (.call g args false none H nx)=some r1)(hH:HR P W φ (hp H) w)(bM:φ.length=nx)(hLR:LR φ args args'){C:Frame}(hC:C.mode= .run)(cs:List Frame):
 ∃φ1 w1,φ.le φ1/\HR P W φ1 (hp r1.H) w1/\φ1.length=r1.nx/\dW φ φ1 (hp H) (hp r1.H)/\nx<=r1.nx/\(match r1.o with
  | .ret v=>∃v',VR φ1 v v'/\Steps P (lone (Frame.enter P g args'.toArray .normal) (C::cs) w) (lone (C.finish v') cs w1)
  | .eR v=>∃v',VR φ1 v v'/\Steps P (lone (Frame.enter P g args'.toArray .normal) (C::cs) w) (lone { C with mode:=eF (some v') } cs w1)):=by
 have hC':∀l,C.mode ≠ .panicking l:=λl q=>by rw[hC]at q;cases q
 obtain⟨φ1,w1,frl,s1,hle,hH1,hl1,hk1,hkk,hff,ho1⟩:=hO _ _ h1 φ w _ (C::cs) hH bM hLR (λq=>by cases q);have hkeep:dW φ φ1 (hp H) (hp r1.H):=uK (λk hk q=>hk1 k (by rw[<- bM];exact hk) q);rw[uJ _ hC',uJ _ hC']at s1;refine⟨φ1,w1,hle,hH1,hl1,hkeep,by have:=oO hle hkeep;omega,?_⟩;cases hr1:r1.o with
 | ret v=>
   rw[hr1]at ho1;obtain⟨v',hv',hgo⟩:=ho1;refine⟨v',hv',s1.trans (.one (step_leave_returned ?_))⟩;obtain⟨a,b,c⟩:=hgo;exact⟨a,b,hkk,c⟩
 | eR v=>
   rw[hr1]at ho1;obtain⟨v',hv',hgo⟩:=ho1;refine⟨v',hv',s1.trans (.one ?_)⟩;have:=step_going_panicked (c:=C) (cs:=cs) hgo;rw[show raised C.mode [{ v:=v',recovered:=false }]=eF (some v')from by rw[hC];rfl]at this;exact this
theorem rK {fb:FB}{o:Oper}{i:Nat}{rest:List Nat}{v:Value}(ho:ops[i]? = some o)(hw:Region.wanted o (yielded ops tmps)=true)
 (he:gB P W φ H w ((execOp (c_ tmps) o).run P w) v H' nx'):
 ∃φ' v' w',step P (lone (cQ fb tmps (.inRegion ops (i::rest)::k)) cs w)= .next (lone (cQ fb (gU tmps o.dst v') (.inRegion ops rest::k)) cs w')/\
  VR φ' v v'/\φ.le φ'/\HR P W φ' (hp H') w'/\φ'.length=nx'/\dW φ φ' (hp H) (hp H'):=by
 obtain⟨φ',v',w',x,hr,hx,h1,h2,h3,h4,h5⟩:=he;refine⟨φ',v',w',?_,h1,h2,h3,h4,h5⟩;rcases hx with rfl | ⟨rfl,rfl⟩
 . exact dL ho hw hr
 . exact oI ho hw hr
theorem CD {l:List Operand}:∀t,Operand.tmp t∈l->¬(λ(_:Nat)=>False) t:=λ_ _ h=>h
theorem Fx.next (x:Fx P W lo cs0 c φ H nx tmps ds w)(hle:φ.le φ')(hH:HR P W φ' (hp H') w')(hl:φ'.length=nx')(hn:nx<=nx'){tmps':Array Value}(iV:tmps'.size=tmps.size):Fx P W lo cs0 c φ' H' nx' tmps' ds w':=
 ⟨hH,hl,Nat.le_trans x.jg hn,iV.trans x.iV,x.rJ.mono hle,x.oA.mono hle⟩
theorem uB.refine {M:Nat->Prop}(h:uB φ M tm tmps){d:Tmp}{v v':Value}(hd:tmps[d]? = some v')(hv:VR φ v v'):uB φ M (bU tm (some d) v) tmps:=λt u q=>by
 rw[er]at q;split at q
 . rename_i e;cases e;cases q;exact .inr ⟨v',hd,hv⟩
 . exact h t u q
theorem CE (hH:HR P W φ (hp H) w)(bM:φ.length=nx){o:Oper}{e:TypeId}{x:Operand}(ho:o.op= .box e x)(hE:∀v,br P tm x=some v->VR φ v (c_ tmps x)){u:Value}(hu:br P tm x=some u):
 ∃φ' v' w',(execOp (c_ tmps) o).run P w= .ok (.value v') w'/\VR φ' (ai u) v'/\φ.le φ'/\HR P W φ' (hp H) w'/\φ'.length=nx+1/\dW φ φ' (hp H) (hp H):=by
 have hc:=(hE u hu).cells;have hb:Below w.heap.size w (w.alloc (.cells (c_ tmps x).cells e)):=(Below.refl w.heap.size w).alloc (Nat.le_refl _) _;refine⟨φ++[some ⟨w.heap.size,0,0,some (c_ tmps x).cells⟩],.pointer (some ⟨w.heap.size,0,none⟩),w.alloc (.cells (c_ tmps x).cells e),?_,?_,cc φ _,?_,by simp[bM],?_⟩
 . simp[execOp,ho,Instr.box,newVar,newRow]
 . refine VR.ep (e:=⟨w.heap.size,0,0,some (c_ tmps x).cells⟩) (dK φ _) rfl (by rw[hc.len];simp) (λj a b ha hb=> ?_);rw[Nat.zero_add]at hb;exact(hc.at_ j a b ha (by simpa using hb)).mono (cc φ _)
 . refine(hH.grown hb).ghost (el:=e) (fz:=(0,0)) rfl (Go.heap_alloc_new w _) (λk y ob hk _ _ q=> ?_);have:=hH.lI k y hk;have q:y.r=w.heap.size:=q;omega
 . intro k hk;refine⟨?_,rfl⟩;rw[List.getElem?_append_left (List.getElem?_eq_some_iff.1 hk).1];exact hk
theorem wH (hH:HR P W φ (hp H) w)(bM:φ.length=nx){o:Oper}{t:TypeId}{d:Tmp}{x:Operand}(ho:o.op= .store t (.tmp d) x)(hE:lJ P φ tm (c_ tmps) [.tmp d,x]){b n s:Nat}{tr:T Value}{el:TypeId}{u:Value}
 (ha:br P tm (.tmp d)=some (.pointer (some ⟨b,0,none⟩))) (hu:br P tm x=some u) (hg:H.get (bits b)=some (.cells n tr el)) (hs:a6 P t=some s) (hn:n=s) (hl:u.cells.toList.length=s) (hone:u.cells.toList.all au=true):
 ∃φ' v' w' y,(execOp (c_ tmps) o).run P w= .ok y w'/\(y= .value v'\/(y= .skip/\v'=undef))/\v'=undef/\VR φ' (ai u) (c_ tmps (.tmp d))/\φ.le φ'/\HR P W φ' (hp (set H (bits b) (some .dead))) w'/\φ'.length=nx+1/\dW φ φ' (hp H) (hp (set H (bits b) (some .dead))):=by
 subst hn;have hef:aj P H nx t (br P tm (.tmp d)) (br P tm x)= .val undef (set H (bits b) (some (.cells n (dB u.cells.toList 0 tr) el))) nx:=by
  rw[ha,hu];show dh (H.get (bits b)) (λn tr e=>aa (a6 P t) (λs=>bif Nat.beq u.cells.toList.length s&&Nat.ble (0+s) n&&u.cells.toList.all au then
   dG u.cells.toList 0 tr λtr=>cJ (bits b) H (some (.cells n tr e)) λH=>dI.val undef H nx else .bad) .bad) .bad=_
  rw[hg];show aa (a6 P t) (λs=>bif Nat.beq u.cells.toList.length s&&Nat.ble (0+s) n&&u.cells.toList.all au then
   dG u.cells.toList 0 tr λtr=>cJ (bits b) H (some (.cells n tr el)) λH=>dI.val undef H nx else .bad) .bad=_
  rw[hs,aN,hl,hone,cC,aY];have e1:Nat.beq n n=true:=Nat.beq_refl n;have e2:Nat.ble (0+n) n=true:=by rw[Nat.zero_add];exact Nat.ble_eq_true_of_le (Nat.le_refl n)
  rw[e1,e2];rfl
 obtain⟨φ1,v',w1,y,hr,hy,h1,h2,h3,h4,h5⟩:=um hH bM ho hE hef;obtain⟨en,hb,_,hp1⟩:=(hE (.tmp d) (by simp) _ ha).dC;have hb1:=h2 b en hb;have hg1:hp (set H (bits b) (some (.cells n (dB u.cells.toList 0 tr) el))) b=some (.cells n (dB u.cells.toList 0 tr) el):=by rw[bu,cf]
 obtain⟨c,el',hrow,hrsz,hrn,oA⟩:=h3.cells hg1 hb1;have hk:=h3.kill hg1 hb1;rw[bu,kR,<- bu]at hk;have hgh:=hk.ghost (e:=⟨en.r,en.sz,en.es,some c⟩) rfl hrow (λk x ob hk' hgk hlk hr=>by
  rw[bu]at hgk
  by_cases hkb:k=b
  . subst hkb;rw[cf]at hgk;cases hgk;cases hlk
  . rw[aX _ hkb]at hgk;exact hkb (h3.inj k b _ _ x en hk' hb1 (by rw[bu,aX _ hkb];exact hgk) hg1 hlk rfl hr))
 refine⟨_,v',w1,y,hr,hy,h1.aB rfl,?_,bZ.le_trans h2 (cc φ1 _),hgh,by simp[h4],?_⟩
 . rw[hp1];refine VR.ep (e:=⟨en.r,en.sz,en.es,some c⟩) (c:=c) (dK φ1 _) rfl (by rw[hl];omega) (λj a b' hja hjb=> ?_);have hjl:j<u.cells.toList.length:=(List.getElem?_eq_some_iff.1 hja).1;obtain⟨a',g1,g2⟩:=oA j (by omega) a (by rw[cS,if_pos (by omega),Nat.sub_zero];exact hja);rw[Nat.zero_add,g1]at hjb;cases hjb;exact g2.mono (cc φ1 _)
 . intro k hk';obtain⟨q1,q2⟩:=h5 k hk';refine⟨?_,?_⟩
   . rw[List.getElem?_append_left (List.getElem?_eq_some_iff.1 q1).1];exact q1
   . rw[bu,aX];intro q;subst q;rw[hb]at hk';cases hk'
theorem CF {o:Oper}(h:Fm pl fn o=true):(∃e x,o.op= .box e x)\/∃t d x,o.op= .store t (.tmp d) x:=by
 unfold Fm at h;split at h
 . rename_i e x ho;exact .inl ⟨e,x,ho⟩
 . rename_i t d x ho;exact .inr ⟨t,d,x,ho⟩
 . cases h
theorem jn (hO:iQ P W O){K:Kt}(hK:xY P W O K k):∀l:List Nat,xY P W O (j0 P pl ops K l) (.inRegion ops l::k)
 | [],c,tm,H,nx,r,h=>(hK c tm H nx r h).step1 λds tmps cs w=> .one (step_region_end (b:=cQ (bS c ds) #[] []) (a:=⟨tmps,ds⟩))
 | i::rest,c,tm,H,nx,r,h=>λφ w lo tmps ds cs0 x htr=>by
   obtain⟨o,ho,h⟩:=bx (show(Ev.aa ops[i]? (OP P pl ops c tm H nx (j0 P pl ops K rest)) .bad).run O=some r from h);unfold OP at h;obtain⟨b,hb,hy,hn⟩:=qA h;have hw:Region.wanted o (yielded ops tmps)=b:=lY htr (λ_ _ _ _ h=>h) hb;have hE:lJ P φ tm (c_ tmps) o.op.operands.toList:=rH x.hH.gl htr CD;have next:∀{φ':bZ} {H':T OB} {nx':Nat} {w':World} {v v':Value},
    Steps P (lone (cQ (bS c ds) tmps (.inRegion ops (i::rest)::k)) (du c.rc cs0) w) (lone (cQ (bS c ds) (gU tmps o.dst v') (.inRegion ops rest::k)) (du c.rc cs0) w')->
    φ.le φ'->HR P W φ' (hp H') w'->φ'.length=nx'->nx<=nx'->dW φ φ' (hp H) (hp H')->VR φ' v v'->((∀d,o.dst=some d->d<c.nt)/\(j0 P pl ops K rest c (bU tm o.dst v) H' nx').run O=some r)->
    cH P W c.kd c.fn lo cs0 c.rc φ H r (cQ (bS c ds) tmps (.inRegion ops (i::rest)::k)) w:=λhs hle hH' hl hn hkp hv hq=>by
    obtain⟨hd,hq⟩:=hq;have hd':∀d,o.dst=some d->d<tmps.size:=λd h=>by rw[x.iV];exact hd d h
    exact cH.steps hs hle (λk _ q=>hkp k q) (jn hO hK rest _ _ _ _ _ hq _ _ _ _ ds cs0 (x.next hle hH' hl hn (dw ..)) ((htr.mono hle).put hd' hv λt h _=>h))
   cases b with
   | false=>exact next (.one (oJ ho hw)) φ.le_refl x.hH x.bM (Nat.le_refl _) (dW.refl _ _) (.flat undef rfl) (cv (hn rfl))
   | true=>
     have h:=hy rfl;unfold Qw at h;rcases dy h with⟨hrd,h⟩ | ⟨hrd,h⟩
     . obtain⟨v,hv,h⟩:=bx h;obtain⟨v',h1,h2⟩:=ow x.hH hE hv;exact next (.one (dL ho hw h2)) φ.le_refl x.hH x.bM (Nat.le_refl _) (dW.refl _ _) h1 (kZ h)
     . rcases dy h with⟨hct,h⟩ | ⟨hct,h⟩
       . cases he:ef P H nx tm o with
         | bad=>rw[he]at h;cases h
         | val v H' nx'=>rw[he]at h;cases h
         | call g args=>
           rw[he]at h;obtain⟨args',h1,hok,h2⟩:=xV hE he;obtain⟨r1,h3,h4⟩:=kY (show(Q.ask (.call g args false none H nx) _).run O=some r from h);obtain⟨φ1,w1,hle,hH1,hl1,hkp,hn1,ho1⟩:=xZ hO h3 x.hH x.bM h1 (C:=cQ (bS c ds) tmps (.inRegion ops (i::rest)::k)) rfl (du c.rc cs0);cases hr1:r1.o with
           | ret v=>
             rw[hr1]at ho1;simp only[hr1]at h4;obtain⟨v',hv',hs⟩:=ho1;rw[kl ho]at hs;exact next (.head (iq ho hw (h2 w)) hs) hle hH1 hl1 hn1 hkp hv' (kZ h4)
           | eR v=>
             rw[hr1]at ho1;simp only[hr1]at h4;obtain⟨v',hv',hs⟩:=ho1;exact(ni hO c.df (.eR v) (some v') φ1 r1.H r1.nx ds w1 hH1 hl1 (by have:=x.jg;omega) (x.rJ.mono hle) (.eR hv') (htr.mono hle) h4).steps (.head (iq ho hw (h2 w)) hs) hle λk _ q=>hkp k q
         | L1 g args=>
           rw[he]at h;obtain⟨d',h1,h2⟩:=JZ hE he;obtain⟨hd,hq⟩:=cv (show(ib c.nt tm o.dst undef (λtm=>j0 P pl ops K rest ⟨c.fn,c.nt,c.kd,(g,args)::c.df,c.rp,c.rc⟩ tm H nx) .bad).run O=some r from h);have hd':∀d,o.dst=some d->d<tmps.size:=λd h=>by rw[x.iV];exact hd d h
           have hx:Fx P W lo cs0 ⟨c.fn,c.nt,c.kd,(g,args)::c.df,c.rp,c.rc⟩ φ H nx (gU tmps o.dst undef) (d'::ds) w:=⟨x.hH,x.bM,x.jg,(dw ..).trans x.iV,.cons h1 x.rJ,x.oA⟩;exact cH.step1 (.one (Cu ho hw (h2 w))) (jn hO hK rest _ _ _ _ _ hq _ _ _ _ _ _ hx (htr.put hd' (.flat _ rfl) λt h _=>h))
         | eR v=>
           rw[he]at h;obtain⟨v',h1,h2⟩:=Cr hE he;exact(ni hO c.df (.eR v) (some v') φ H nx ds w x.hH x.bM x.jg x.rJ (.eR h1) htr h).step1 (.one (uA ho hw (h2 w)))
         | L2=>
           rw[he]at h;have h:(Mf c λc v=>ib c.nt tm o.dst v (λtm=>j0 P pl ops K rest c tm H nx) .bad).run O=some r:=h;have h2:=J0 (ρ:=c_ tmps) he w;have none':tryRecover (cQ (bS c ds) tmps (.inRegion ops (i::rest)::k)) (du c.rc cs0)=none->(ib c.nt tm o.dst .nilIface (λtm=>j0 P pl ops K rest c tm H nx) .bad).run O=some r->
            cH P W c.kd c.fn lo cs0 c.rc φ H r (cQ (bS c ds) tmps (.inRegion ops (i::rest)::k)) w:=λht hq=>
            next (.one (pZ ho hw h2 ht)) φ.le_refl x.hH x.bM (Nat.le_refl _) (dW.refl _ _) (.flat .nilIface rfl) (cv hq)
           obtain⟨cfn,L8,ckd,cdf,crp,crc⟩:=c;have oA:wC φ ckd crp crc cs0:=x.oA;cases ckd with
           | false=>exact none' (wD rfl) h
           | true=>
             have hk2:(cQ (bS ⟨cfn,L8,true,cdf,crp,crc⟩ ds) tmps (.inRegion ops (i::rest)::k)).kind= .deferred:=rfl;have oA:=oA rfl;cases crp with
             | none=>exact none' (oA _ hk2) h
             | some v=>
               obtain⟨q,C,rs,v',older,hcs,hC,hv⟩:=oA;subst q hcs;obtain⟨hd,hq⟩:=cv (show(ib L8 tm o.dst v (λtm=>j0 P pl ops K rest ⟨cfn,L8,true,cdf,none,true⟩ tm H nx) .bad).run O=some r from h);have iV:tmps.size=L8:=x.iV;have hd':∀d,o.dst=some d->d<tmps.size:=λd h=>by rw[iV];exact hd d h
               have ht:tryRecover (cQ (bS ⟨cfn,L8,true,cdf,some v,false⟩ ds) tmps (.inRegion ops (i::rest)::k)) (C::rs)=some (v',uI (C::rs)):=by
                rw[fA hk2];unfold uI;simp only[hC]
               have hx:Fx P W lo (C::rs) ⟨cfn,L8,true,cdf,none,true⟩ φ H nx (gU tmps o.dst v') ds w:=⟨x.hH,x.bM,x.jg,(dw ..).trans iV,x.rJ,λ_ F hF=>Cy (cs:=C::rs) hF⟩;exact cH.steps (rc1:=true) (.one (p4 ho hw h2 ht)) φ.le_refl (λ_ _ q=>⟨q,rfl⟩) (jn hO hK rest _ _ _ _ _ hq _ _ _ _ _ _ hx (htr.put hd' hv λt h _=>h))
       . rcases dy h with⟨hfr,h⟩ | ⟨hfr,h⟩
         . rcases CF hfr with⟨e,y,hop⟩ | ⟨t,d,y,hop⟩
           . unfold Mi at h;simp only[hop]at h;obtain⟨u,hu,h⟩:=bx (show(aa (br P tm y) (λv=>bN (Nat.succ nx) λn=>ib c.nt tm o.dst (ai v) (λtm=>j0 P pl ops K rest c tm H n) .bad) .bad).run O=some r from h);rw[a5]at h;obtain⟨φ',v',w',hs,h1,h2,h3,h4,h5⟩:=CE x.hH x.bM hop (λv hv=>hE y (by rw[hop];simp[Op.operands]) v hv) hu;exact next (.one (dL ho hw hs)) h2 h3 h4 (Nat.le_succ _) h5 h1 (cv h)
           . unfold Mi at h;simp only[hop]at h;obtain⟨b,off,ha,h⟩:=CA (show(xL P c.nt tm H nx t d o.dst (br P tm (.tmp d)) (br P tm y) λtm H nx=>j0 P pl ops K rest c tm H nx).run O=some r from h);obtain⟨u,hu,h⟩:=bx h;obtain⟨n,tr,el,hg,h⟩:=wE h;obtain⟨s,hs,h⟩:=bx h;obtain⟨hc,hq⟩:=jL h;rw[aY,a5]at hq;simp only[Bool.and_eq_true]at hc;have hn:=beq_eq hc.2.1;have hl:=beq_eq hc.2.2.1;obtain⟨hd,hq1⟩:=cv hq;obtain⟨hd2,hq2⟩:=cv hq1;have hoff:=beq_eq hc.1;clear h hq hq1;subst hoff;obtain⟨φ',v',w',y',hr,hy',hv',h1,h2,h3,h4,h5⟩:=wH x.hH x.bM hop (by rw[hop]at hE;exact hE) ha hu hg hs hn hl hc.2.2.2;have hst:step P (lone (cQ (bS c ds) tmps (.inRegion ops (i::rest)::k)) (du c.rc cs0) w)= .next (lone (cQ (bS c ds) (gU tmps o.dst v') (.inRegion ops rest::k)) (du c.rc cs0) w'):=by
              rcases hy' with rfl | ⟨rfl,rfl⟩
              . exact dL ho hw hr
              . exact oI ho hw hr
             have hdd:d<tmps.size:=by rw[x.iV];exact hd d rfl
             have hd2':∀e,o.dst=some e->e<tmps.size:=λe q=>by rw[x.iV];exact hd2 e q
             have htd:tmps[d]? = some (c_ tmps (.tmp d)):=by
              rw[Array.getElem?_eq_getElem hdd];show _=some (tmps.getD d undef);simp[Array.getD,hdd]
             have ht1:=(htr.mono h2).refine htd h1;refine cH.steps (.one hst) h2 (λk _ q=>h5 k q) (jn hO hK rest _ _ _ _ _ hq2 _ _ _ _ ds cs0 (x.next h2 h3 h4 (Nat.le_succ _) (dw ..)) ?_);exact ht1.put hd2' (by rw[hv'];exact .flat undef rfl) λt h _=>h
         . obtain⟨v,H',nx',he,h⟩:=nh h;obtain⟨φ',v',w',hs,h1,h2,h3,h4,h5⟩:=rK (fb:=bS c ds) (k:=k) (cs:=du c.rc cs0) (rest:=rest) ho hw (oB x.hH x.bM hE he);have hn:nx<=nx':=by have:=oO h2 h5;rw[x.bM,h4]at this;exact this
           exact next (.one hs) h2 h3 h4 hn h5 h1 (cv h)
theorem oR (hO:iQ P W O){K:Kt}(hK:xY P W O K k):∀(l:List (Nat×List Nat)) (tm:T Value) (H:T OB) (nx:Nat) (φ:bZ) (tmps:Array Value) (w:World) (π done g9:List Nat) (κ:Nat->Nat),
 (qf P pl ops K l c tm H nx).run O=some r->Fx P W lo cs0 c φ H nx tmps ds w->ec P φ H tm tmps ops done g9 l π κ lo nx->jj P H tm ops done π->cH P W c.kd c.fn lo cs0 c.rc φ H r (cQ (bS c ds) tmps (.inRegion ops π::k)) w
 | [],tm,H,nx,φ,tmps,w,π,done,g9,κ,h,x,hD,hL=>by
   obtain⟨φ',tmps',w',π',hs,hle,hH',hlen,hk,hD',_,hz,hn⟩:=oL (fn:=bS c ds) (k:=k) (cs:=du c.rc cs0) π φ tmps w x.hH hD hL;have:=hD'.last hn;subst this;refine cH.steps (hs.trans (.one (step_region_end (b:=cQ (bS c ds) #[] []) (a:=⟨tmps',ds⟩)))) hle (λk hk' q=>⟨hk k hk' q,rfl⟩) (hK c tm H nx r h _ _ _ _ ds cs0 (x.next hle hH' (hlen.trans x.bM) (Nat.le_refl _) hz) ?_);exact λt v hv=>(hD'.tr t v hv).imp (λ⟨p,hp,_⟩=>absurd hp List.not_mem_nil) id
 | (i,chk)::rest,tm,H,nx,φ,tmps,w,π,done,g9,κ,h,x,hD,hL=>by
   obtain⟨o,ho,hni,hrdy,hpr,hpe⟩:=gj hD.Bs;obtain⟨o',ho',h⟩:=bx (show(Ev.aa ops[i]? (OR P pl ops chk c tm H nx (qf P pl ops K rest)) .bad).run O=some r from h);rw[ho]at ho';cases ho';unfold OR at h;obtain⟨b,hb,hy,hn0⟩:=qA h;have iV:=x.iV;have ahead:∀{φ':bZ} {H':T OB} {nx':Nat} {κ':Nat->Nat} {u:Value},jc (ic ops) i o=true->(∀d,o.dst=some d->d<c.nt)->φ.le φ'->
    (∀k,k<nx->φ[k]? = some none->φ'[k]? = some none/\hp H' k=hp H k)->(∀p,p≠i->κ' p=κ p)->nx<=nx'->HR P W φ' (hp H') w->φ'.length=nx'->
    uD P φ' H' (bU tm o.dst u) ops κ' lo nx' i o->(nY o.op=true->nx<=κ' i)->(∀k ob,hp H k=some ob->hp H' k=some ob)->
    (kJ o.op=true->bF (bU tm o.dst u) ops o=some true->rd P H' (bU tm o.dst u) o=some u)->
    (qf P pl ops K rest c (bU tm o.dst u) H' nx').run O=some r->cH P W c.kd c.fn lo cs0 c.rc φ H r (cQ (bS c ds) tmps (.inRegion ops π::k)) w:=by
    intro φ' H' nx' κ' u hc hd hle hk hκ hn hH' hl hprom hfresh hext hself hq;have hna:i∉iO ops:=Cv λhm=>by
     have hm':(ic ops).contains i=true:=by simpa using hm
     unfold jc at hc;rw[hm',Bool.not_true,Bool.and_false]at hc;cases hc
    refine cH.steps (.refl _ _) hle (λk hk' q=>hk k (by have:=x.jg;omega) q) (oR hO hK rest _ H' nx' φ' tmps w π (i::done) _ κ' hq (x.next hle hH' hl hn rfl)
     (hD.take ho hna hni hrdy (hpr hc) (λp hp=> ?_) (λhl=> ?_) hle hk hκ hn (λd h=>by rw[iV];exact hd d h) hprom hfresh) (hL.take hD.sa hD.ready ho hna hni hext hself))
    . split
      . exact List.mem_cons_of_mem _ hp
      . exact hp
    . rw[if_pos hl];simp
   have hself:∀{d:Tmp},o.dst=some d->d∉o.looksAt ops:=λhd=>Cw hD.sa hD.ac ho hd;have e1:∀u,bF (bU tm o.dst u) ops o=bF tm ops o:=λu=>jm (i:=i) (p:=i) λd hd=>hself hd;have e2:∀u H,rd P H (bU tm o.dst u) o=rd P H tm o:=λu H=>l3 λd hd=>hself hd;have e3:∀u d,o.dst=some d->(bU tm o.dst u).get (bits d)=some u:=λu d hd=>by rw[er,if_pos hd]
   have turn:jc (ic ops) i o=false->∃φ1 tmps1 w1 l,Steps P (lone (cQ (bS c ds) tmps (.inRegion ops π::k)) (du c.rc cs0) w) (lone (cQ (bS c ds) tmps1 (.inRegion ops (i::l)::k)) (du c.rc cs0) w1)/\
    φ.le φ1/\(∀k,k<lo->φ[k]? = some none->φ1[k]? = some none/\hp H k=hp H k)/\Fx P W lo cs0 c φ1 H nx tmps1 ds w1/\ec P φ1 H tm tmps1 ops done g9 ((i,chk)::rest) (i::l) κ lo nx/\
    Region.wanted o (yielded ops tmps1)=b/\lJ P φ1 tm (c_ tmps1) o.op.operands.toList:=by
    intro hc;obtain⟨φ1,tmps1,w1,π',hs,hle,hH1,hlen,hk,hD1,_,hz,hn⟩:=oL (fn:=bS c ds) (k:=k) (cs:=du c.rc cs0) π φ tmps w x.hH hD hL;obtain⟨l,rfl⟩:=hD1.head ho hc hn;exact⟨φ1,tmps1,w1,l,hs,hle,λj hj q=>⟨hk j hj q,rfl⟩,x.next hle hH1 (hlen.trans x.bM) (Nat.le_refl _) hz,hD1,
     lY hD1.tr (λp hp d hd=>jK hD1.Fb hD1.own ho (jl hp hd)) hb,rH hH1.gl hD1.tr λt ht=>jK hD1.Fb hD1.own ho (jk ht)⟩
   have fin:∀{φ1 φ2:bZ} {H':T OB} {nx':Nat} {tmps1:Array Value} {w1 w2:World} {l:List Nat} {v v':Value},jc (ic ops) i o=false->Fx P W lo cs0 c φ1 H nx tmps1 ds w1->ec P φ1 H tm tmps1 ops done g9 ((i,chk)::rest) (i::l) κ lo nx->
    Steps P (lone (cQ (bS c ds) tmps1 (.inRegion ops (i::l)::k)) (du c.rc cs0) w1) (lone (cQ (bS c ds) (gU tmps1 o.dst v') (.inRegion ops l::k)) (du c.rc cs0) w2)->
    φ1.le φ2->HR P W φ2 (hp H') w2->φ2.length=nx'->nx<=nx'->dW φ1 φ2 (hp H) (hp H')->VR φ2 v v'->((∀d,o.dst=some d->d<c.nt)/\(n0 P H' (bU tm o.dst v) ops chk (qf P pl ops K rest c (bU tm o.dst v) H' nx')).run O=some r)->
    cH P W c.kd c.fn lo cs0 c.rc φ1 H r (cQ (bS c ds) tmps1 (.inRegion ops (i::l)::k)) w1:=by
    intro φ1 φ2 H' nx' tmps1 w1 w2 l v v' hc x1 hD1 hs hle hH2 hl hn hkp hv hq;obtain⟨hd,hq⟩:=hq;unfold n0 at hq;rcases dy hq with⟨hchk,hq⟩ | ⟨_,hq⟩
    . obtain⟨h6,h7⟩:=hD1.finish (H':=H') ho hc hle (λj _ q=>hkp j q) hn hv (λd h=>by rw[x1.iV];exact hd d h) hchk;exact cH.steps hs hle (λk _ q=>hkp k q) (oR hO hK rest _ _ _ _ _ _ _ _ _ _ hq (x1.next hle hH2 hl hn (dw ..)) h6 h7)
    . exact(e8 hq).elim
   cases b with
   | true=>
     have h:=hy rfl;unfold Qx at h;rcases dy h with⟨hrd,h⟩ | ⟨hrd,h⟩
     . obtain⟨v,hv,h⟩:=bx h;obtain⟨hd,hq⟩:=kZ h;cases hf:jc (ic ops) i o with
       | false=>
         obtain rfl:chk=[]:=(hpe hf).1 hrd;obtain⟨φ1,tmps1,w1,l,hs,hle1,hk1,x1,hD1,hw1,hE1⟩:=turn hf;obtain⟨v',hvr,hrun⟩:=ow x1.hH hE1 hv;exact cH.steps hs hle1 hk1 (fin hf x1 hD1 (.one (dL ho hw1 hrun)) φ1.le_refl x1.hH x1.bM (Nat.le_refl _) (dW.refl _ _) hvr ⟨hd,by unfold n0;exact hq⟩)
       | true=>
       exact ahead (u:=v) (κ':=κ) hf hd φ.le_refl (λk _ q=>⟨q,rfl⟩) (λ_ _=>rfl) (Nat.le_refl _) x.hH x.bM
        (.inr (.inl ⟨(e1 v).trans hb,hrd,v,e3 v,λ_=>(e2 v H).trans hv⟩)) (λhal=>by
         rw[xX hal]at hrd;cases hrd) (λ_ _ h=>h) (λ_ _=>(e2 v H).trans hv) hq
     . rcases dy h with⟨hal,h⟩ | ⟨hal,h⟩
       . cases hf:jc (ic ops) i o with
         | false=>
           obtain⟨φ1,tmps1,w1,l,hs,hle1,hk1,x1,hD1,hw1,hE1⟩:=turn hf;refine cH.steps hs hle1 hk1 ?_;obtain⟨v,H',nx',he,h⟩:=nh h;obtain⟨φ2,v',w2,hs2,h1,h2,h3,h4,h5⟩:=rK (fb:=bS c ds) (k:=k) (cs:=du c.rc cs0) (rest:=l) ho hw1 (oB x1.hH x1.bM hE1 he);have hn:nx<=nx':=by have:=oO h2 h5;rw[x1.bM,h4]at this;exact this
           exact fin hf x1 hD1 (.one hs2) h2 h3 h4 hn h5 h1 (cv h)
         | true=>
         obtain⟨v,H',nx',he2,h⟩:=nh h;obtain⟨e,l,mk,hz,rfl,rfl,rfl⟩:=Mt hal he2;obtain⟨hd,hq⟩:=cv h;unfold n0 at hq;have hq:=(dy hq).elim (λq=>q.2) (λq=>(e8 q.2).elim);have hnone:hp H nx=none:=by
          cases hx:hp H nx with
          | none=>rfl
          | some ob=>have:=x.hH.mz nx ob hx;have:=x.bM;omega
         have bM:=x.bM;subst bM;refine ahead (u:=mk φ.length) (κ':=λp=>if p=i then φ.length else κ p) (φ':=φ++[none]) hf hd (cc φ _) (λj hj q=>⟨?_,?_⟩) (λp hp=>if_neg hp) (Nat.le_succ _) ?_ (by simp)
          (.inr (.inr ⟨(e1 _).trans hb,hal,e,l,mk,qz (λy hy=>lZ tm o.dst _ y λd hd q=>by
           subst q;exact hself hd (jk hy)) hz,?_,?_,?_,?_,λd hd=> ?_⟩)) (λ_=> ?_) (λj ob hj=> ?_) (λhl=> ?_) hq
         . rw[List.getElem?_append_left hj];exact q
         . rw[bu,aX _ (by omega)]
         . rw[bu];exact x.hH.Mn _
         . dsimp only;rw[if_pos rfl];exact dK φ _
         . dsimp only;rw[if_pos rfl,bu,cf]
         . dsimp only;rw[if_pos rfl];exact x.jg
         . dsimp only;rw[if_pos rfl];omega
         . dsimp only;rw[if_pos rfl];exact e3 _ d hd
         . rw[if_pos rfl];exact Nat.le_refl _
         . rw[bu]
           by_cases hjn:j=φ.length
           . subst hjn;rw[hnone]at hj;cases hj
           . rw[aX _ hjn];exact hj
         . rw[FE hal]at hl;cases hl
       . have hc:jc (ic ops) i o=false:=by unfold jc;rw[hrd,hal];rfl
         obtain⟨φ1,tmps1,w1,l,hs,hle1,hk1,x1,hD1,hw1,hE1⟩:=turn hc;refine cH.steps hs hle1 hk1 ?_;rcases dy h with⟨hct,h⟩ | ⟨hct,h⟩
         . cases he:ef P H nx tm o with
           | bad=>rw[he]at h;cases h
           | val v H' nx'=>rw[he]at h;cases h
           | L1 g args=>rw[he]at h;cases h
           | L2=>rw[he]at h;cases h
           | call g args=>
             rw[he]at h;obtain⟨args',h1,hok,h2⟩:=xV hE1 he;obtain⟨r1,h3,h4⟩:=kY (show(Q.ask (.call g args false none H nx) _).run O=some r from h);obtain⟨φ2,w2,hle,hH2,hl2,hkp,hn1,ho1⟩:=xZ hO h3 x1.hH x1.bM h1 (C:=cQ (bS c ds) tmps1 (.inRegion ops (i::l)::k)) rfl (du c.rc cs0);cases hr1:r1.o with
             | ret v=>
               rw[hr1]at ho1;simp only[hr1]at h4;obtain⟨v',hv',hs2⟩:=ho1;rw[kl ho]at hs2;exact fin hc x1 hD1 (.head (iq ho hw1 (h2 w1)) hs2) hle hH2 hl2 hn1 hkp hv' (kZ h4)
             | eR v=>
               rw[hr1]at ho1;simp only[hr1]at h4;obtain⟨v',hv',hs2⟩:=ho1;rcases dy h4 with⟨hdf,h4⟩ | ⟨_,h4⟩
               . have hdf:=List.isEmpty_iff.1 hdf;obtain⟨fd,hfd,h4⟩:=bx (show(aa P.funcs[c.fn]? (λ_=>Q.ret ⟨.eR v,c.rc,r1.H,r1.nx⟩) .bad).run O=some r from h4);have h4:=ng h4;subst h4;have rJ:=x1.rJ;rw[hdf]at rJ;cases rJ;exact⟨φ2,w2,_,.head (iq ho hw1 (h2 w1)) hs2,hle,hH2,hl2,λk _ q=>hkp k q,rfl,rfl,v',hv',rfl,rfl,fd,hfd⟩
               . exact(e8 h4).elim
           | eR v=>
             rw[he]at h;obtain⟨v',h1,h2⟩:=Cr hE1 he;rcases dy h with⟨hdf,h4⟩ | ⟨_,h4⟩
             . have hdf:=List.isEmpty_iff.1 hdf;obtain⟨fd,hfd,h4⟩:=bx (show(aa P.funcs[c.fn]? (λ_=>Q.ret ⟨.eR v,c.rc,H,nx⟩) .bad).run O=some r from h4);have h4:=ng h4;subst h4;have rJ:=x1.rJ;rw[hdf]at rJ;cases rJ;exact⟨φ1,w1,_,.one (uA ho hw1 (h2 w1)),φ1.le_refl,x1.hH,x1.bM,λk _ q=>⟨q,rfl⟩,rfl,rfl,v',h1,rfl,rfl,fd,hfd⟩
             . exact(e8 h4).elim
         . rcases dy h with⟨hfr,h⟩ | ⟨hfr,h⟩
           . simp only[Bool.and_eq_true]at hfr;obtain⟨e,y,hop⟩:∃e y,o.op= .box e y:=by
              have hb:=hfr.2;unfold Ii at hb;split at hb
              . rename_i e y hop;exact⟨e,y,hop⟩
              . cases hb
             unfold Mi at h;simp only[hop]at h;obtain⟨u,hu,h⟩:=bx (show(aa (br P tm y) (λv=>bN (Nat.succ nx) λn=>ib c.nt tm o.dst (ai v) (λtm=>n0 P H tm ops chk (qf P pl ops K rest c tm H n)) .bad) .bad).run O=some r from h);rw[a5]at h;obtain⟨φ2,v',w2,hs2,h1,h2,h3,h4,h5⟩:=CE x1.hH x1.bM hop (λv hv=>hE1 y (by rw[hop];simp[Op.operands]) v hv) hu;exact fin hc x1 hD1 (.one (dL ho hw1 hs2)) h2 h3 h4 (Nat.le_succ _) h5 h1 (cv h)
           . obtain⟨v,H',nx',he,h⟩:=nh h;obtain⟨φ2,v',w2,hs2,h1,h2,h3,h4,h5⟩:=rK (fb:=bS c ds) (k:=k) (cs:=du c.rc cs0) (rest:=l) ho hw1 (oB x1.hH x1.bM hE1 he);have hn:nx<=nx':=by have:=oO h2 h5;rw[x1.bM,h4]at this;exact this
             exact fin hc x1 hD1 (.one hs2) h2 h3 h4 hn h5 h1 (cv h)
   | false=>
     obtain⟨hd,hq⟩:=cv (hn0 rfl);cases hc:jc (ic ops) i o with
     | true=>
       unfold n0 at hq;rcases dy hq with⟨hchk,hq⟩ | ⟨_,hq⟩
       . refine ahead (u:=undef) (κ':=λp=>if p=i then nx else κ p) hc hd φ.le_refl (λk _ q=>⟨q,rfl⟩) (λp hp=>if_neg hp) (Nat.le_refl _) x.hH x.bM
          (.inl ⟨(e1 _).trans hb,e3 _⟩) (λ_=> ?_) (λ_ _ h=>h) (λ_ hw=> ?_) hq
         . rw[if_pos rfl];exact Nat.le_refl _
         . rw[e1,hb]at hw;cases hw
       . exact(e8 hq).elim
     | false=>
       obtain⟨φ1,tmps1,w1,l,hs,hle1,hk1,x1,hD1,hw1,_⟩:=turn hc;exact cH.steps hs hle1 hk1 (fin hc x1 hD1 (.one (oJ ho hw1)) φ1.le_refl x1.hH x1.bM (Nat.le_refl _) (dW.refl _ _) (.flat undef rfl) (cv (hn0 rfl)))
end
end
end Go.Ev
