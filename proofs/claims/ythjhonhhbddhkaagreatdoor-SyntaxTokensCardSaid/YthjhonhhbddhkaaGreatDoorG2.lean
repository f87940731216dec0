/- Texts of this claim, side by side. -/
import Derived.Test.YthjhonhhbddhkaaGreatDoorG1
import Derived.Scope
import Derived.Recover
namespace Go.Ev
open Go.RowKit (Below)
noncomputable section
set_option maxRecDepth 100000
set_option linter.unusedVariables false
set_option linter.unusedSimpArgs false
section
variable {P:Program}{W w:World}{φ:cA}{H:T OB}{tm:T Value}{ρ:Operand->Value}{g:Nat->Option OB}
theorem HR.alias (hH:HR P W φ g w){e:gF}{ob:OB}(hr:e.r<w.heap.size)(hno:∀k ob x,g k=some ob->live ob=true->φ[k]? = some (some x)->x.r≠e.r)
 (h0:e.fz=none) (hfz:∀(k:Nat) (x:gF) (c:Array Value),φ[k]? = some (some x)->x.fz=some c->e.r≠x.r) (hob:w8 P W φ ob e w):
 HR P W (φ++[some e]) (nd g φ.length (some ob)) w where
 below:=hH.below
 gl:=hH.IT (cI φ _)
 nR:=λk o h=>by
  simp only[List.length_append,List.length_singleton]
  by_cases hk:k=φ.length
  . omega
  . rw[aY g hk]at h;have:=hH.nR k o h;omega
 m7:=λk x h=>by
  rcases bJ h with h | ⟨_,h⟩
  . exact hH.m7 k x h
  . cases h;exact hr
 inj:=λk k' o1 o2 x x' h h' hg hg' hl hl' hrr=>by
  rcases bJ h with h0 | ⟨hk,hx⟩
  . have l0:=(List.getElem?_eq_some_iff.1 h0).1
    rw[aY g (by omega)]at hg
    rcases bJ h' with h1 | ⟨hk',hx'⟩
    . have l1:=(List.getElem?_eq_some_iff.1 h1).1
      rw[aY g (by omega)]at hg'
      exact hH.inj k k' o1 o2 x x' h0 h1 hg hg' hl hl' hrr
    . cases hx'
      exact absurd hrr (hno k o1 x hg hl h0)
  . cases hx
    rcases bJ h' with h1 | ⟨hk',hx'⟩
    . have l1:=(List.getElem?_eq_some_iff.1 h1).1
      rw[aY g (by omega)]at hg'
      exact absurd hrr.symm (hno k' o2 x' hg' hl' h1)
    . exact hk.trans hk'.symm
 obj:=λk oa x hg h=>by
  rcases bJ h with h0 | ⟨hk,hx⟩
  . have l0:=(List.getElem?_eq_some_iff.1 h0).1
    rw[aY g (by omega)]at hg
    exact(hH.obj k oa x hg h0).mono (cI φ _)
  . cases hx
    subst hk
    rw[cK]at hg
    cases hg
    exact hob.mono (cI φ _)
 jU:=λk x c h hf=>by
  rcases bJ h with h1 | ⟨_,hx⟩
  . exact hH.jU k x c h1 hf
  . cases hx;rw[h0]at hf;cases hf
 qn:=λk k' x x' c o h hf h' hg hl=>by
  rcases bJ h with h1 | ⟨_,hx⟩
  . rcases bJ h' with h2 | ⟨_,hx'⟩
    . have l2:=(List.getElem?_eq_some_iff.1 h2).1
      rw[aY g (by omega)]at hg
      exact hH.qn k k' x x' c o h1 hf h2 hg hl
    . cases hx'
      exact hfz k x c h1 hf
  . cases hx;rw[h0]at hf;cases hf
theorem HR.Ng (hH:HR P W φ g w){k n n':Nat}{t t':T Value}{el:TypeId}{e:gF}(hg:g k=some (.cells n t el))(hk:φ[k]? = some (some e))(hn:n'<=n)
 (ht:∀i,i<n'->t'.get (bits i)=t.get (bits i)):HR P W φ (nd g k (some (.cells n' t' el))) w:=by
 obtain⟨h1,⟨c,el',h2,h3,h4,h5⟩,h6⟩:=hH.obj k _ e hg hk
 exact hH.put hg rfl hk hH.below rfl (λ_ _=>rfl) ⟨h1,⟨c,el',h2,h3,by omega,λi hi v hv=>h5 i (by omega) v (by rw[<- ht i hi];exact hv)⟩,h6⟩
section ops
variable {o:Oper}{v:Value}{H':T OB}{nx nx':Nat}
theorem gb {w:World}{r off:Nat}{c:Array Value}{el:TypeId}{fz:Nat×Nat}(hr:w.heap[r]? = some (.cells c el fz)){s:Nat}:
 ∀(j:Nat) (v:Value),((c.toList.drop off).take s)[j]? = some v->w.cell? ((⟨r,off,none⟩:Addr).add j)=some v:=λj v hv=>by
 rw[db,cell_of_row w r (off+j) c el fz hr]
 rw[List.getElem?_take]at hv
 split at hv
 . rw[List.getElem?_drop]at hv;simpa using hv
 . cases hv
theorem sq (hH:HR P W φ (hp H) w){s n c:Nat}{base:Option Addr}{x':Value}{xs:List Value}(hv:VR φ (.slice base n c) x')(h:cellsOf H s base n=some xs):
 ∃xs',LR φ xs xs'/\xs'.length=n*s/\
  ((base=none/\n=0/\x'= .slice none n c)\/∃a c',x'= .slice (some a) n c'/\∀j v,xs'[j]? = some v->w.cell? (a.add j)=some v):=by
 cases base with
 | none=>
   obtain⟨h1,h2⟩:=aR (show(bif Nat.beq n 0 then some []else none)=some xs from h)
   cases h2
   have h1:=beq_eq h1
   subst h1
   have:=hv.aG rfl
   exact⟨[],.nil,by simp,.inl ⟨rfl,rfl,this⟩⟩
 | some a=>
   obtain⟨b,off,sp⟩:=a
   obtain⟨e,c',hb,rfl,rfl,_⟩:=hv.eJ
   have h:sf (H.get (bits b)) (λm tr=>bif Nat.ble (off+n*s) m then oE tr (n*s) off else none) none=some xs:=h
   obtain⟨m,tr,hg,h⟩:=qj h
   obtain⟨hle,hl⟩:=aR h
   obtain⟨cs,el',fz,hr,hn,hc⟩:=hH.row hg hb
   have hle:=cL hle
   obtain⟨h1,h2⟩:=lC hc hl hle hn
   exact⟨_,h1,by rw[<- h1.len,h2],.inr ⟨_,c',rfl,gb hr⟩⟩
theorem lp {w:World}{x':Value}{n s:Nat}{xs':List Value}(hl:xs'.length=n*s)
 (h:(n=0/\∃c,x'= .slice none n c)\/∃a c',x'= .slice (some a) n c'/\∀j v,xs'[j]? = some v->w.cell? (a.add j)=some v):
 (Builtin.firstCells s n x').run P w= .ok xs'.toArray w/\(Builtin.lenOf x').run P w= .ok n w:=by
 rcases h with⟨rfl,c,rfl⟩ | ⟨a,c',rfl,h⟩
 . have:xs'=[]:=by
    cases xs' with
    | nil=>rfl
    | cons _ _=>simp at hl
   subst this
   exact⟨rfl,rfl⟩
 . exact⟨run_firstCells_some w s n a n c' xs' hl h,rfl⟩
theorem sr {es:List Value}{s:Nat}(h:∀x∈es,x.cells.toList.length=s):(es.flatMap λu=>u.cells.toList).length=es.length*s:=by
 induction es with
 | nil=>simp
 | cons x es ih=>
   rw[List.flatMap_cons,List.length_append,h x (by simp),ih λy hy=>h y (by simp[hy]),List.length_cons,Nat.succ_mul]
   omega
theorem xf {es:List Value}{s:Nat}(h:∀x∈es,x.cells.toList.length=s):∀(m:Nat) (v:Value),(es.flatMap λu=>u.cells.toList)[m]? = some v->∃i j x,m=i*s+j/\es[i]? = some x/\x.cells.toList[j]? = some v:=by
 induction es with
 | nil=>intro m v hv;simp at hv
 | cons x es ih=>
   intro m v hv
   rw[List.flatMap_cons]at hv
   have hx:=h x (by simp)
   by_cases hm:m<x.cells.toList.length
   . rw[List.getElem?_append_left hm]at hv
     exact⟨0,m,x,by omega,rfl,hv⟩
   . rw[List.getElem?_append_right (by omega),hx]at hv
     obtain⟨i,j,y,h1,h2,h3⟩:=ih (λy hy=>h y (by simp[hy])) _ v hv
     refine⟨i+1,j,y,?_,by simpa using h2,h3⟩
     rw[hx]at hm
     rw[Nat.succ_mul]
     omega
theorem zc (hH:HR P W φ (hp H) w){s xl:Nat}{xv x':Value}{xs:List Value}(hv:VR φ xv x')(h:oG H s xv=some (xl,xs)):
 ∃xs',LR φ xs xs'/\xs'.length=xl*s/\((xl=0/\∃c,x'= .slice none xl c)\/∃a c',x'= .slice (some a) xl c'/\∀j v,xs'[j]? = some v->w.cell? (a.add j)=some v):=by
 unfold oG at h
 split at h
 . rename_i xb n xc
   obtain⟨l,hl,h1⟩:=aH h
   cases h1
   obtain⟨xs',h2,h3,h4⟩:=sq hH hv hl
   refine⟨xs',h2,h3,?_⟩
   rcases h4 with⟨_,h4,h5⟩ | h4
   . exact .inl ⟨h4,_,h5⟩
   . exact .inr h4
 . obtain⟨s',es,rfl,h1⟩:=iI h
   obtain⟨h2,h3⟩:=aR h1
   have h2:=beq_eq h2
   subst h2
   cases h3
   clear h h1
   rcases hv.ib with⟨rfl,hy | ⟨a,c',hy⟩⟩ | ⟨k,o',c',e,c,h3,h4,h5,h6,h7,h8,hy⟩
   . exact⟨[],.nil,by simp,.inl ⟨rfl,_,hy⟩⟩
   . exact⟨[],.nil,by simp,.inr ⟨_,c',hy,λj v hj=>by simp at hj⟩⟩
   . obtain⟨el,fz,hrow⟩:=hH.jU k e c h3 h4
     have hlen:=sr h5
     by_cases hne:es=[]
     . subst hne
       exact⟨[],.nil,by simp,.inr ⟨_,c',hy,λj v hj=>by simp at hj⟩⟩
     . have h6:=h6 hne
       refine⟨(c.toList.drop o').take (es.length*s'),⟨?_,λm a b ha hb=> ?_⟩,?_,.inr ⟨_,c',hy,gb hrow⟩⟩
       . rw[hlen];simp only[List.length_take,List.length_drop,Array.length_toList];omega
       . obtain⟨i,j,x,rfl,hi,hj⟩:=xf h5 m a ha
         rw[List.getElem?_take]at hb
         split at hb
         . rw[List.getElem?_drop,Array.getElem?_toList]at hb
           exact h8 i j x a b hi hj (by rw[Nat.add_assoc];exact hb)
         . cases hb
       . simp only[List.length_take,List.length_drop,Array.length_toList];omega
theorem xg {e:TypeId}{s aS:Nat}(h:bL P e s aS=true)(hs:bh P e=some s):
 ∃i z',P.info? e=some i/\i.zero=some z'/\i.size=s/\z'.cells.size=s/\0<s/\aS<=1048576/\i.bytes<=65536:=by
 unfold bL at h
 split at h
 . rename_i i z hi hz
   simp only[Bool.and_eq_true]at h
   obtain⟨i',z',hi',hz',hl,_⟩:=ga hz
   rw[hi]at hi'
   cases hi'
   have h1:=beq_eq h.1.1.1
   refine⟨i,z',hi,hz',?_,?_,eD h.1.1.2,cL h.1.2,cL h.2⟩
   . unfold bh at hs
     rw[hi]at hs
     cases hs
     rfl
   . rw[<- h1,<- hl];simp
 . cases h
theorem zd {d:TypeDesc}(h:∀k,d ≠ .int k):(match d with | .int _=>true | _=>false)=false:=by
 cases d<;>first | rfl | exact absurd rfl (h _)
theorem lq (t u ty e:TypeId)(i:TypeInfo){d:TypeDesc}(ht:P.underlying t=some (.slice e))(hud:P.underlying u=some d)(hd:∀k,d ≠ .int k)(hi:P.info? e=some i)(b:Addr)(sLen sCap:Nat){x:Value}{n:Nat}{xs:List Value}
 (hn:(Builtin.lenOf x).run P w= .ok n w) (hf:(Builtin.firstCells i.size n x).run P w= .ok xs.toArray w) (hle:sLen+n<=sCap) {w':World}
 (hst:(storeCells (b.add (sLen*i.size)) xs).run P w= .ok () w'):
 (Builtin.append_ #[t,u] ty #[.slice (some b) sLen sCap,x]).run P w= .ok (.slice (some b) (sLen+n) sCap) w':=by
 have hm:=zd hd
 simp[Builtin.append_,run_underlying ht,run_underlying hud,hm,sizeOf,typeInfo,hi,hn,hle,hf,hst]
theorem oH (t u ty e:TypeId)(i:TypeInfo){d:TypeDesc}(ht:P.underlying t=some (.slice e))(hud:P.underlying u=some d)(hd:∀k,d ≠ .int k)(hi:P.info? e=some i){x:Value}{xs:List Value}
 (hn:(Builtin.lenOf x).run P w= .ok 0 w) (hf:(Builtin.firstCells i.size 0 x).run P w= .ok xs.toArray w):
 (Builtin.append_ #[t,u] ty #[.slice none 0 0,x]).run P w= .ok (.slice none 0 0) w:=by
 have hm:=zd hd
 simp[Builtin.append_,run_underlying ht,run_underlying hud,hm,sizeOf,typeInfo,hi,hn,hf]
theorem jG (t u ty e:TypeId)(i:TypeInfo)(z:Value){d:TypeDesc}(ht:P.underlying t=some (.slice e))(hud:P.underlying u=some d)(hd:∀k,d ≠ .int k)(hi:P.info? e=some i)(hz:i.zero=some z)
 (base:Option Addr) (sLen sCap:Nat) (olds:List Value) (holds:(Builtin.firstCells i.size sLen (.slice base sLen sCap)).run P w.drew= .ok olds.toArray w.drew) {x:Value} (n:Nat) (news:List Value)
 (hn:(Builtin.lenOf x).run P w= .ok n w) (hf:(Builtin.firstCells i.size n x).run P w.drew= .ok news.toArray w.drew)
 (hg:sCap<sLen+n) (h63:((sLen+n:Nat):Int)<=9223372036854775807) (hfit:Builtin.nextslicecap (sLen+n) sCap*i.bytes<=281474976710656):
 (Builtin.append_ #[t,u] ty #[.slice base sLen sCap,x]).run P w=
  .ok (.slice (some ⟨w.heap.size,0,none⟩) (sLen+n) (grownCap w (sLen+n) sCap e))
   (w.drew.alloc (.cells ((olds++news).toArray++Builtin.zeroCells z.cells (grownCap w (sLen+n) sCap e-(sLen+n))) e)):=by
 have hm:=zd hd
 have hn':¬(sLen+n<=sCap):=by omega
 have h63':¬(9223372036854775807<((sLen:Int)+(n:Int))):=by omega
 have h48':¬(281474976710656<Builtin.nextslicecap (sLen+n) sCap*i.bytes):=by omega
 simp[Builtin.append_,run_underlying ht,run_underlying hud,hm,sizeOf,typeInfo,zeroValue,hi,hz,hn,hn',h63',h48',Question.forced,hf,holds,newRow,grownCap]
 congr 2
 apply Array.ext'
 simp[List.append_assoc]
theorem ig {H:T OB}{nx:Nat}{e:TypeId}{m:Nat}{l:List Value}:h_ H nx e m l= .val (.slice (some ⟨nx,0,none⟩) m eN) (set H (bits nx) (some (cS l e))) (nx+1):=by
 unfold h_
 rw[eo,ba]
theorem gA {c:Call}(hc:c.callee= .builtin .append)(ho:o.op= .call c){r:Result Value}(h:(Builtin.append_ c.argTypes o.type (c.args.map ρ)).run P w=r):
 (execOp ρ o).run P w=r.andThen λv w'=> .ok (.value v) w':=by
 subst h
 simp only[execOp,ho,resolve,hc,Sem.run_bind,Sem.run_pure,Result.andThen_ok,invoke,builtin]
theorem qx (z:Array Value)(n:Nat):(Builtin.zeroCells z n).size=n*z.size:=by simp[Builtin.zeroCells]
theorem grownCap_ge (w:World)(aS old:Nat)(e:TypeId):aS<=grownCap w aS old e:=by
 unfold grownCap
 simp only[Question.cut]
 omega
theorem Az (bW:φ.length=nx){e:TypeId}{z':Value}{s m cap:Nat}{l l':List Value}{r:Result Next}(H₁:T OB)(hH₁:HR P W φ (hp H₁) w)(hk:eP φ φ (hp H) (hp H₁))
 (hs:bh P e=some s) (hz:z'.cells.size=s) (hl:LR φ l l') (hlen:l'.length=m*s) (hm:m<=cap)
 (hr:r= .ok (.value (.slice (some ⟨w.heap.size,0,none⟩) m cap)) (w.drew.alloc (.cells (l'.toArray++Builtin.zeroCells z'.cells (cap-m)) e))):
 iy P W φ H w r (.slice (some ⟨nx,0,none⟩) m eN) (set H₁ (bits nx) (some (cS l e))) (nx+1):=by
 subst bW
 refine⟨_,_,_,_,hr,.inl rfl,.slice (iL φ w.heap.size (l'.toArray++Builtin.zeroCells z'.cells (cap-m)).size s) (.inr ⟨rfl,hm,?_⟩),j6 _ _ _ _,?_,iK _ _ _ _,?_⟩
 . simp only[Array.size_append,List.size_toArray,qx,hz,hlen]
   rw[<- Nat.add_mul]
   rw[show m+(cap-m)=cap from by omega]
   omega
 . rw[bB]
   exact hH₁.drew.fresh _ (uc (w:=w.drew) hl e e _ (λz h=>by rw[hs]at h;cases h;rfl) hH₁.below.drew)
 . rw[bB]
   exact hk.trans (gT _ _ _ _ _ _)
theorem LB (hH:HR P W φ (hp H) w)(bW:φ.length=nx){c:Call}(hc:c.callee= .builtin .append)(ho:o.op= .call c){t u e:TypeId}{s sl sc xl:Nat}{base:Option Addr}{sv xv:Value}{xs xs':List Value}
 (hty:c.argTypes=#[t,u]) (hargs:c.args.map ρ=#[sv,xv]) (hsv:VR φ (.slice base sl sc) sv) (hu:P.underlying t=some (.slice e)) (hux:∃d,P.underlying u=some d/\∀k,d ≠ .int k) (hs:bh P e=some s)
 (hsm:bL P e s (sl+xl)=true) (hx1:LR φ xs xs') (hx2:xs'.length=xl*s) (hlx:∀w',(Builtin.lenOf xv).run P w'= .ok xl w') (hfx:(Builtin.firstCells s xl xv).run P w= .ok xs'.toArray w)
 (hfxd:(Builtin.firstCells s xl xv).run P w.drew= .ok xs'.toArray w.drew) (h:sj P H nx e s base sl sc xl xs= .val v H' nx'):iy P W φ H w ((execOp ρ o).run P w) v H' nx':=by
 obtain⟨i,z',hi,hz,his,hzs,h0,hneed,hby⟩:=xg hsm hs
 obtain⟨dd,hud,hdd⟩:=hux
 rw[<- his]at hfx hfxd
 have h48:∀old,old<sl+xl->Builtin.nextslicecap (sl+xl) old*i.bytes<=281474976710656:=λold hold=>
  growslice_fits hold (Nat.le_trans (Nat.mul_le_mul hneed hby) (by decide))
 cases base with
 | none=>
   have hsv:=hsv.aG rfl
   subst hsv
   obtain⟨hb,h'⟩:=cX (show(bif Nat.beq sl 0&&Nat.beq sc 0 then(bif Nat.beq xl 0 then eC.val (.slice none 0 0) H nx else h_ H nx e xl xs)else .bad)= .val v H' nx' from h)
   simp only[Bool.and_eq_true]at hb
   have hb1:=beq_eq hb.1
   have hb2:=beq_eq hb.2
   subst hb1 hb2
   cases hx0:Nat.beq xl 0 with
   | true=>
     rw[hx0]at h'
     have h':eC.val (.slice none 0 0) H nx= .val v H' nx':=h'
     cases h'
     have hx0:=beq_eq hx0
     subst hx0
     refine⟨φ,.slice none 0 0,w,.value (.slice none 0 0),?_,.inl rfl,.flat _ rfl,φ.le_refl,hH,bW,eP.refl _ _⟩
     rw[gA hc ho (r:= .ok (.slice none 0 0) w) ?_]
     . rfl
     . rw[hty,hargs]
       exact oH t u o.type e i hu hud hdd hi (hlx w) hfx
   | false=>
     rw[hx0]at h'
     have h':h_ H nx e xl xs= .val v H' nx':=h'
     rw[ig]at h'
     cases h'
     have hx0:0<xl:=by
      rcases Nat.eq_zero_or_pos xl with q | q
      . subst q;cases hx0
      . exact q
     refine Az bW H hH (eP.refl _ _) hs hzs hx1 hx2 (grownCap_ge w xl 0 e) ?_
     rw[gA hc ho rfl,hty,hargs]
     have h5:=jG (P:=P) (w:=w) t u o.type e i z' hu hud hdd hi hz none 0 0 [] rfl xl xs' (hlx w) hfxd (by omega) (by omega) (h48 0 (by omega))
     rw[Nat.zero_add,List.nil_append]at h5
     rw[h5]
     rfl
 | some a0=>
   obtain⟨b,off,sp⟩:=a0
   obtain⟨en,c0,hb,rfl,rfl,hcap⟩:=hsv.eJ
   have h:dJ (H.get (bits b)) (λn tr el=>bif Nat.beq sc eN then Qo P H nx e s b off sl xl n tr xs
    else bif Nat.ble (sl+xl) sc then DL H nx s b off sl sc xl n tr el xs else nP H nx e s off sl xl n tr xs) .bad= .val v H' nx':=h
   obtain⟨n,tr,el,hg,h⟩:=qw h
   obtain⟨cr,elr,hrow,hrsz,hrn,qy⟩:=hH.cells hg hb
   have grow:∀(H₁:T OB) (old:List Value),HR P W φ (hp H₁) w->eP φ φ (hp H) (hp H₁)->oE tr (sl*s) off=some old->off+sl*s<=n->c0<sl+xl->0<xl->
    iy P W φ H w ((execOp ρ o).run P w) (.slice (some ⟨nx,0,none⟩) (sl+xl) eN) (set H₁ (bits nx) (some (cS (old++xs) e))) (nx+1):=by
    intro H₁ old hH₁ hk hold hle hlt hx0
    obtain⟨ho1,ho2⟩:=lC qy hold hle (by omega)
    have holds:=run_firstCells_some (P:=P) w.drew i.size sl ⟨en.r,off,none⟩ sl c0 _ (by rw[<- ho1.len,ho2,his]) (gb (w:=w.drew) (s:=sl*s) hrow)
    refine Az bW H₁ hH₁ hk hs hzs (ho1.append hx1) ?_ (grownCap_ge w (sl+xl) c0 e) ?_
    . rw[List.length_append,<- ho1.len,ho2,hx2,Nat.add_mul]
    . rw[gA hc ho rfl,hty,hargs,jG (P:=P) (w:=w) t u o.type e i z' hu hud hdd hi hz (some ⟨en.r,off,none⟩) sl c0 _ holds xl xs' (hlx w) hfxd hlt (by omega) (h48 c0 hlt)]
      rfl
   cases hsc:Nat.beq sc eN with
   | true=>
     rw[hsc]at h
     have h:Qo P H nx e s b off sl xl n tr xs= .val v H' nx':=h
     have hsc:=beq_eq hsc
     rcases hcap with⟨q,_⟩ | ⟨_,hcl,hcb⟩
     . exact absurd hsc q
     unfold Qo at h
     obtain⟨hq,h⟩:=cX h
     obtain⟨old,hold,h⟩:=ca h
     rw[a_,ig]at h
     cases h
     simp only[Bool.and_eq_true]at hq
     have hoff:=beq_eq hq.1.1.1
     have hsn:=cL hq.1.1.2
     subst hoff
     have hes:en.es=s:=by
      have h15:=hq.1.2
      unfold sh at h15
      rw[hg]at h15
      have h15:aa (bh P el) (λz=>Nat.beq z s) false=true:=h15
      cases hz:bh P el with
      | none=>rw[hz]at h15;cases h15
      | some z=>
        rw[hz]at h15
        have h15:Nat.beq z s=true:=h15
        have:=beq_eq h15
        subst this
        exact hH.es (show hp H b=some (.cells n tr el)from hg) hb z hz
     have hkill:HR P W φ (hp (set H (bits b) (some .dead))) w:=by rw[bB];exact hH.kill (show hp H b=some (.cells n tr el)from hg) hb
     have hkeep:eP φ φ (hp H) (hp (set H (bits b) (some .dead))):=λk hk=>⟨hk,by
      rw[bB,aY]
      intro q;subst q;rw[hb]at hk;cases hk⟩
     by_cases hfit:sl+xl<=c0
     . -- in place: the new block of ours over the old row
       obtain⟨ho1,ho2⟩:=lC qy hold (by omega) (by omega)
       have hle1:(sl+xl)*s<=en.sz:=by
        have:(sl+xl)*s<=c0*s:=Nat.mul_le_mul_right s hfit
        rw[hes]at hcb
        omega
       rw[Nat.add_mul]at hle1
       obtain⟨hab,_,_⟩:=hH.obj b _ en (show hp H b=some (.cells n tr el)from hg) hb
       have hAl:=hkill.alias (e:=en) (ob:= .cells en.sz (ej old 0 .leaf) e) (hH.m7 b en hb) (λk ob x hgk hlk hφk hr=>by
        rw[bB]at hgk
        by_cases hkb:k=b
        . subst hkb;rw[cK]at hgk;cases hgk;cases hlk
        . rw[aY _ hkb]at hgk
          exact hkb (hH.inj k b _ _ x en hφk hb hgk (show hp H b=some (.cells n tr el)from hg) hlk rfl hr))
        (by
         cases hz:en.fz with
         | none=>rfl
         | some cz=>exact absurd rfl (hH.qn b b en en cz _ hb hz hb (show hp H b=some (.cells n tr el)from hg) rfl))
        (λk x cz hx hz=>hH.qn k b x en cz _ hx hz hb (show hp H b=some (.cells n tr el)from hg) rfl) ⟨hab,⟨cr,elr,hrow,hrsz,Nat.le_refl _,λj hj v hv=>by
        rw[dr]at hv
        split at hv
        . rename_i hjl
          have hj2:j<sl*s:=by omega
          have h3:=(qg tr (sl*s) 0 old hold).2 j hj2
          rw[Nat.zero_add]at h3
          rw[Nat.sub_zero]at hv
          rw[hv]at h3
          exact qy j (by omega) v h3
        . rw[iH]at hv;cases hv⟩,λz hz=>by rw[hs]at hz;cases hz;exact hes⟩
       obtain⟨w',hrun,hH2⟩:=fH (φ:=φ++[some en]) (b:=φ.length) (n:=en.sz) (el:=e) (e:=en) (eE φ _) xs xs' (sl*s) 0 _ w _ hAl (cK _ _ _) (hx1.mono (cI φ _)) hq.2 (by rw[hx1.len,hx2];omega)
       rw[mf,Nat.add_zero]at hH2
       have hH3:=hH2.Ng (k:=φ.length) (n':=(old++xs).length) (t':=ej (old++xs) 0 .leaf) (cK _ _ _) (eE φ _) (by rw[List.length_append,ho2,hx1.len,hx2];omega) (λj hj=>by
        rw[dr,dr,if_pos (by omega),Nat.sub_zero]
        rw[List.length_append,ho2]at hj
        by_cases hjs:j<sl*s
        . rw[if_neg (by omega),List.getElem?_append_left (by omega),dr,if_pos (by omega),Nat.sub_zero]
        . rw[if_pos (by omega),List.getElem?_append_right (by omega),ho2])
       rw[mf]at hH3
       subst bW
       refine⟨φ++[some en],.slice (some ⟨en.r,0,none⟩) (sl+xl) c0,w',.value (.slice (some ⟨en.r,0,none⟩) (sl+xl) c0),?_,.inl rfl,.slice (eE φ _) (.inr ⟨rfl,hfit,hcb⟩),cI φ _,?_,by simp,?_⟩
       . rw[gA hc ho (r:= .ok (.slice (some ⟨en.r,0,none⟩) (sl+xl) c0) w') ?_]
         . rfl
         . rw[hty,hargs]
           refine lq t u o.type e i hu hud hdd hi ⟨en.r,0,none⟩ sl c0 (hlx w) hfx hfit ?_
           rw[db,his,Nat.zero_add]
           exact hrun
       . rw[bB];exact hH3
       . rw[bB]
         refine hkeep.trans (λk hk=>⟨?_,aY _ ?_ _⟩)
         . rw[List.getElem?_append_left (List.getElem?_eq_some_iff.1 hk).1];exact hk
         . have:=(List.getElem?_eq_some_iff.1 hk).1;omega
     . exact grow _ old hkill hkeep hold (by omega) (by omega) (by omega)
   | false=>
     rw[hsc]at h
     have hne:sc≠eN:=λq=>by rw[q]at hsc;exact absurd (Nat.beq_refl eN) (by rw[hsc];decide)
     have hc0:c0=sc:=by
      rcases hcap with⟨_,q⟩ | ⟨q,_⟩
      . exact q
      . exact absurd q hne
     subst hc0
     have h:(bif Nat.ble (sl+xl) c0 then DL H nx s b off sl c0 xl n tr el xs else nP H nx e s off sl xl n tr xs)= .val v H' nx':=h
     cases hle:Nat.ble (sl+xl) c0 with
     | true=>
       rw[hle]at h
       have h:DL H nx s b off sl c0 xl n tr el xs= .val v H' nx':=h
       have hle:=cL hle
       unfold DL at h
       obtain⟨hq,h⟩:=cX h
       rw[cW,a_,ba]at h
       cases h
       simp only[Bool.and_eq_true]at hq
       have hin:=cL hq.1
       have hmul:(sl+xl)*s<=c0*s:=Nat.mul_le_mul_right s hle
       rw[Nat.add_mul]at hmul
       obtain⟨w',hrun,hH2⟩:=fH hb xs xs' (off+sl*s) 0 (hp H) w tr hH hg hx1 hq.2 (by rw[hx1.len,hx2];omega)
       refine⟨φ,.slice (some ⟨en.r,off,none⟩) (sl+xl) c0,w',.value (.slice (some ⟨en.r,off,none⟩) (sl+xl) c0),?_,.inl rfl,.slice hb (.inl ⟨hne,rfl⟩),φ.le_refl,?_,bW,?_⟩
       . rw[gA hc ho (r:= .ok (.slice (some ⟨en.r,off,none⟩) (sl+xl) c0) w') ?_]
         . rfl
         . rw[hty,hargs]
           refine lq t u o.type e i hu hud hdd hi ⟨en.r,off,none⟩ sl c0 (hlx w) hfx hle ?_
           rw[db,his]
           exact hrun
       . rw[bB];exact hH2
       . intro k hk
         refine⟨hk,?_⟩
         rw[bB,aY]
         intro q;subst q;rw[hb]at hk;cases hk
     | false=>
       rw[hle]at h
       have h:nP H nx e s off sl xl n tr xs= .val v H' nx':=h
       have hlt:c0<sl+xl:=by
        rcases Nat.lt_or_ge c0 (sl+xl)with q | q
        . exact q
        . exact absurd (Nat.ble_eq_true_of_le q) (by rw[hle];decide)
       unfold nP at h
       obtain⟨hq,h⟩:=cX h
       obtain⟨old,hold,h⟩:=ca h
       rw[ig]at h
       cases h
       simp only[Bool.and_eq_true]at hq
       exact grow H old hH (eP.refl _ _) hold (cL hq.1) hlt (eD hq.2)
theorem DZ (hH:HR P W φ (hp H) w)(bW:φ.length=nx){c:Call}(hc:c.callee= .builtin .append)(ho:o.op= .call c)(hE:m8 P φ tm ρ c.args.toList)
 (h:a9 P H nx c.argTypes.toList (oF P tm c.args.toList)= .val v H' nx'):iy P W φ H w ((execOp ρ o).run P w) v H' nx':=by
 have two:∀{a b:Value},oF P tm c.args.toList=some [a,b]->∃sv xv,VR φ a sv/\VR φ b xv/\c.args.map ρ=#[sv,xv]:=by
  intro a b hevs
  have hLRa:=ng _ _ hE hevs
  obtain⟨sv,m1,hm1,hsv,hrest⟩:=hLRa.inv
  obtain⟨xv,m2,hm2,hxv,hrest⟩:=hrest.inv
  have hm3:=hrest.kI
  subst hm3
  subst hm2
  exact⟨sv,xv,hsv,hxv,Array.ext' (by rw[Array.toList_map];exact hm1)⟩
 have tys:∀{t u:TypeId},c.argTypes.toList=[t,u]->c.argTypes=#[t,u]:=λ{t u} q=>by
  have:c.argTypes.toList.toArray=#[t,u]:=by rw[q]
  simpa using this
 unfold a9 at h
 split at h
 . rename_i base sl sc b t u hevs htys
   obtain⟨sv,xv,hsv,hxv,hargs⟩:=two hevs
   have hxv:=hxv.aG rfl
   subst hxv
   obtain⟨hst,h⟩:=cX h
   obtain⟨e,s,hu,hs,h⟩:=ic h
   obtain⟨hsm,h⟩:=cX h
   simp only[Bool.and_eq_true]at hsm
   have hs1:=beq_eq hsm.2
   subst hs1
   have hud:∃d,P.underlying u=some d/\∀k,d ≠ .int k:=by
    unfold EC at hst
    split at hst
    . rename_i q;exact⟨_,q,λk=>by simp⟩
    . cases hst
   have hfc:∀w',(Builtin.firstCells 1 b.size (.string b)).run P w'= .ok (b.data.toList.map λx=>Value.int .u8 (.ofNat x.toNat)).toArray w':=λw'=>by
    simp[Builtin.firstCells]
    exact Array.ext' (by simp)
   refine LB hH bW hc ho (xv:= .string b) (xs:=b.data.toList.map λx=> .int .u8 (.ofNat x.toNat)) (tys htys) hargs hsv hu hud hs hsm.1 (LR.of_flat (λx hx=> ?_)) ?_ (λw'=>rfl) (hfc w) (hfc w.drew) h
   . obtain⟨y,_,rfl⟩:=List.mem_map.1 hx
     rfl
   . simp
 . unfold l4 at h
   split at h
   case h_2=>cases h
   rename_i base sl sc xv0 t u hevs htys
   obtain⟨sv,xv,hsv,hxv,hargs⟩:=two hevs
   cases htu:Nat.beq t u with
   | false=>rw[htu]at h;cases h
   | true=>
     rw[htu]at h
     have htu:=beq_eq htu
     subst htu
     have h:du P t (λe s=>aa (oG H s xv0) (λp=>bif bL P e s (sl+p.1)then sj P H nx e s base sl sc p.1 p.2 else .bad) .bad) .bad= .val v H' nx':=h
     obtain⟨e,s,hu,hs,h⟩:=ic h
     obtain⟨⟨xl,xs⟩,hxs,h⟩:=ca h
     obtain⟨hsm,h⟩:=cX h
     obtain⟨xs',hx1,hx2,hx3⟩:=zc hH hxv hxs
     obtain⟨hfx,hlx⟩:=lp (P:=P) hx2 hx3
     have hx3':(xl=0/\∃c,xv= .slice none xl c)\/∃a c',xv= .slice (some a) xl c'/\∀j v,xs'[j]? = some v->w.drew.cell? (a.add j)=some v:=hx3
     obtain⟨hfxd,_⟩:=lp (P:=P) (w:=w.drew) hx2 hx3'
     have hl:∀w',(Builtin.lenOf xv).run P w'= .ok xl w':=λw'=>by
      rcases hx3 with⟨_,c,rfl⟩ | ⟨a,c',rfl,_⟩<;>rfl
     exact LB hH bW hc ho (tys htys) hargs hsv hu ⟨_,hu,λk=>by simp⟩ hs hsm hx1 hx2 hl hfx hfxd h
end ops
end
section
variable {P:Program}{W w:World}{φ:cA}{H:T OB}{tm:T Value}{ρ:Operand->Value}{g:Nat->Option OB}
section ops
variable {o:Oper}{v:Value}{H':T OB}{nx nx':Nat}
theorem ze (hH:HR P W φ (hp H) w)(bW:φ.length=nx){t:TypeId}(ho:o.op= .makeMap t none)
 (h:(da (bits nx) H (some (.map [] 0)) λH=>bF (Nat.succ nx) λn=>eC.val (.map (some nx)) H n)= .val v H' nx'):iy P W φ H w ((execOp ρ o).run P w) v H' nx':=by
 rw[a_,ba]at h
 cases h
 subst bW
 refine⟨fresh φ w.heap.size 0 0,.map (some w.heap.size),w.alloc (.map #[] 0),.value (.map (some w.heap.size)),?_,.inl rfl,.map (iL φ _ _ _),j6 _ _ _ _,?_,iK _ _ _ _,?_⟩
 . simp[execOp,ho,Instr.makeMap]
 . rw[bB];exact hH.fresh _ ⟨hH.below.size,#[],Go.heap_alloc_new w _,.nil⟩
 . rw[bB];exact gT _ _ _ _ _ _
theorem lr (hH:HR P W φ (hp H) w)(bW:φ.length=nx){m m':Option Nat}{c:Nat}(hm:yZ φ m m'){r:Result Next}
 (hr:r= .ok (.value (.pointer (some ⟨w.heap.size,0,none⟩))) (w.alloc (.mapIter m' c #[] c))) (h:kH H nx m c= .val v H' nx'):iy P W φ H w r v H' nx':=by
 unfold kH at h
 rw[a_,ba]at h
 cases h
 subst bW
 refine⟨fresh φ w.heap.size 0 0,_,_,_,hr,.inl rfl,.ptr (iL φ _ _ _),j6 _ _ _ _,?_,iK _ _ _ _,?_⟩
 . rw[bB];exact hH.fresh _ ⟨hH.below.size,m',#[],Go.heap_alloc_new w _,rfl,hm⟩
 . rw[bB];exact gT _ _ _ _ _ _
theorem mi {x:Option OB}{k:List MapEntry->Nat->eC}{v:Value}{H':T OB}{nx':Nat}(h:wR x k .bad= .val v H' nx'):∃es c,x=some (.map es c)/\k es c= .val v H' nx':=by
 unfold wR at h
 split at h
 . exact⟨_,_,rfl,h⟩
 . cases h
theorem sY {x:Option OB}{k:Option Nat->Nat->List Nat->Nat->eC}{v:Value}{H':T OB}{nx':Nat}(h:qa x k .bad= .val v H' nx'):
 ∃m s l c,x=some (.iter m s l c)/\k m s l c= .val v H' nx':=by
 unfold qa at h
 split at h
 . exact⟨_,_,_,_,rfl,h⟩
 . cases h
theorem D0 {t:TypeId}{k:TypeDesc->TypeId->eC}{v:Value}{H':T OB}{nx':Nat}(h:nO P t k .bad= .val v H' nx'):
 ∃kt et d,P.underlying t=some (.map kt et)/\P.underlying kt=some d/\lZ d=true/\k d et= .val v H' nx':=by
 unfold nO at h
 split at h
 . rename_i kt et hu
   obtain⟨d,h1,h2⟩:=ca h
   obtain⟨h3,h4⟩:=cX h2
   exact⟨kt,et,d,hu,h1,h3,h4⟩
 . cases h
theorem EW (hH:HR P W φ (hp H) w)(bW:φ.length=nx){t:TypeId}{x:Operand}(ho:o.op= .range t x)(hE:∀v,bz P tm x=some v->VR φ v (ρ x))
 (h:tP P H nx t (bz P tm x)= .val v H' nx'):iy P W φ H w ((execOp ρ o).run P w) v H' nx':=by
 unfold tP at h
 obtain⟨ht,h⟩:=cX h
 unfold EB at ht
 split at ht
 . rename_i kt et hu
   split at h
   . rename_i hx
     have hx':=(hE _ hx).aG rfl
     refine lr (m':=none) hH bW (show yZ φ none none from trivial) ?_ h
     simp[execOp,ho,hx',Instr.range,bm hu]
   . rename_i b hx
     obtain⟨e,hb,hx'⟩:=(hE _ hx).l9
     obtain⟨es,c,hg,h⟩:=mi h
     obtain⟨_,es',hr,hml⟩:=hH.obj b _ e (show hp H b=some (.map es c)from hg) hb
     refine lr (m':=some e.r) hH bW (show yZ φ (some b) (some e.r)from⟨e,hb,rfl⟩) ?_ h
     simp[execOp,ho,hx',Instr.range,bm hu,MapKept.run_getObj_map hr]
   . cases h
 . cases ht
theorem lD {w:World}{r:Nat}{o o':Obj}(hr:w.heap[r]? = some o)(hn:∀c e f,o ≠ .cells c e f):(setObj r o').run P w= .ok () { w with heap:=w.heap.setIfInBounds r o' }:=by
 unfold Go.setObj
 cases o with
 | cells c e f=>exact absurd rfl (hn _ _ _)
 | _=>simp only[Sem.run,hr]
theorem dV {w:World}{r:Nat}{o:Obj}(hr:w.heap[r]? = some o)(hn:∀c e f,o ≠ .cells c e f):(getObj r).run P w= .ok o w:=by
 unfold getObj
 cases o with
 | cells c e f=>exact absurd rfl (hn _ _ _)
 | _=>simp only[Sem.run,hr]
theorem HR.setObj (hH:HR P W φ g w){b:Nat}{ob0 ob':OB}{e:gF}(hg:g b=some ob0)(hl:live ob0=true)(hb:φ[b]? = some (some e))(o':Obj)
 (hob:w8 P W φ ob' e { w with heap:=w.heap.setIfInBounds e.r o' }):HR P W φ (nd g b (some ob')) { w with heap:=w.heap.setIfInBounds e.r o' }:=by
 have hab:=w8.QL hl (hH.obj b ob0 e hg hb)
 refine hH.put hg hl hb ?_ (by simp) (λr hr=>Array.getElem?_setIfInBounds_ne (λq=>hr q.symm)) hob
 exact hH.below.trans ⟨rfl,rfl,rfl,by simp,λk hk=>Array.getElem?_setIfInBounds_ne (by omega)⟩
theorem heap_set {w:World}{r:Nat}{o o':Obj}(hr:w.heap[r]? = some o):({ w with heap:=w.heap.setIfInBounds r o' }:World).heap[r]? = some o':=
 Array.getElem?_setIfInBounds_self_of_lt (Array.getElem?_eq_some_iff.1 hr).1
theorem xh {b:Nat}{e:gF}(hb:φ[b]? = some (some e))(x:Option OB):eP φ φ g (nd g b x):=λk hk=>⟨hk,aY g (λq=>by subst q;rw[hb]at hk;cases hk) x⟩
theorem nQ.length {l l':List MapEntry}(h:nQ φ l l'):l'.length=l.length:=by
 induction h with
 | nil=>rfl
 | cons _ _ ih=>simp[ih]
theorem nQ.append {a a' b b':List MapEntry}(h:nQ φ a a')(h':nQ φ b b'):nQ φ (a++b) (a'++b'):=by
 induction h with
 | nil=>exact h'
 | cons h _ ih=>exact .cons h ih
theorem nQ.modify {k k' v v':Value}(hk:VR φ k k')(hv:VR φ v v'){l l':List MapEntry}(h:nQ φ l l'):∀i,nQ φ (l.modify i λe=>{ e with key:=k,val:=v }) (l'.modify i λe=>{ e with key:=k',val:=v' }):=by
 induction h with
 | nil=>intro i;cases i<;>exact .nil
 | @cons e e' l l' he hl ih=>
   intro i
   cases i with
   | zero=>exact .cons ⟨hk,hv,he.born⟩ hl
   | succ i=>exact .cons he (ih i)
theorem nV {d:TypeDesc}{k:Value}:∀(l:List MapEntry) (i j:Nat) (v:Value),Instr.findNow d k l i=some (some (j,v))->∃n e,j=i+n/\l[n]? = some e/\Instr.sameNow d k e.key=some true
 | [],i,j,v,h=>by cases h
 | e::l,i,j,v,h=>by
   unfold Instr.findNow at h
   cases hs:Instr.sameNow d k e.key with
   | none=>rw[hs]at h;cases h
   | some b=>
     rw[hs]at h
     cases b with
     | true=>cases h;exact⟨0,e,rfl,rfl,hs⟩
     | false=>
       obtain⟨n,e',h1,h2,h3⟩:=nV l (i+1) j v h
       exact⟨n+1,e',by omega,by simpa using h2,h3⟩
theorem bytes_beq {a b:ByteArray}(h:(a == b)=true):(b == a)=true:=by
 have:a=b:=by
  cases a;cases b
  exact congrArg _ (eq_of_beq h)
 subst this
 exact h
theorem xi {d:TypeDesc}{k a:Value}(h:Instr.sameNow d k a=some true)(n:Nat):Instr.sameBits (n+1) a k=true:=by
 unfold Instr.sameNow at h
 split at h
 . split at h
   . rename_i hk
     subst hk
     injection h with h
     have:=beq_iff_eq.1 h
     subst this
     simp[Instr.sameBits]
   . cases h
 . injection h with h
   simp only[Instr.sameBits]
   exact bytes_beq h
 . injection h with h
   have:=beq_iff_eq.1 h
   subst this
   simp[Instr.sameBits]
 . cases h
theorem mj (hH:HR P W φ (hp H) w)(bW:φ.length=nx){t:TypeId}{m k x:Operand}(ho:o.op= .mapUpdate t m k x)(hE:m8 P φ tm ρ [m,k,x])
 (h:ia P H nx t (bz P tm m) (bz P tm k) (bz P tm x)= .val v H' nx'):iy P W φ H w ((execOp ρ o).run P w) v H' nx':=by
 unfold ia at h
 obtain⟨kt,et,d,hu,hd,hkk,h⟩:=D0 h
 obtain⟨b,hm,h⟩:=ca h
 obtain⟨kv,hk,h⟩:=ca h
 obtain⟨xv,hx,h⟩:=ca h
 obtain⟨es,c,hg,h⟩:=mi h
 have hm':bz P tm m=some (.map (some b)):=by
  unfold Lv at hm
  split at hm
  . rename_i q;cases hm;exact q
  . cases hm
 obtain⟨e,hb,hmr⟩:=(hE m (by simp) _ hm').l9
 have hkv:=hE k (by simp) kv hk
 have hxv:=hE x (by simp) xv hx
 have hgb:hp H b=some (.map es c):=hg
 obtain⟨hab,es',hr,hml⟩:=hH.obj b _ e hgb hb
 have hnc:∀c' e' f,Obj.map es' c ≠ .cells c' e' f:=λ_ _ _=>by simp
 cases hf:Instr.findNow d kv es 0 with
 | none=>rw[hf]at h;cases h
 | some r=>
   rw[hf]at h
   obtain⟨r',hf',hfr⟩:=qt hkv hml 0 r hf
   have hfk:=run_findKey hd hf' w
   have fin:∀(nes:List MapEntry) (nes':Array MapEntry) (nc:Nat),nQ φ nes nes'.toList->(execOp ρ o).run P w= .ok .skip { w with heap:=w.heap.setIfInBounds e.r (.map nes' nc) }->
    iy P W φ H w ((execOp ρ o).run P w) undef (set H (bits b) (some (.map nes nc))) nx:=λnes nes' nc hn hrun=>
    ⟨φ,undef,_,.skip,hrun,.inr ⟨rfl,rfl⟩,.flat _ rfl,φ.le_refl,by rw[bB];exact hH.setObj hgb rfl hb _ ⟨hab,nes',heap_set hr,hn⟩,bW,by rw[bB];exact xh hb _⟩
   cases hfr with
   | @some i u u' hu'=>
     have h:(da (bits b) H (some (.map (es.modify i λe=>{ e with key:=kv,val:=xv }) c)) λH=>eC.val undef H nx)= .val v H' nx':=h
     rw[a_]at h
     cases h
     refine fin _ (es'.modify i λe=>{ e with key:=ρ k,val:=ρ x }) c (by rw[Array.toList_modify];exact hml.modify hkv hxv i) ?_
     obtain⟨n,en,hn1,hn2,hn3⟩:=nV _ _ _ _ hf'
     rw[Nat.zero_add]at hn1
     subst hn1
     have hkey:(Instr.keyThatStays (((es'[i]?).map (·.key)).getD (ρ k)) (ρ k)).run P w= .ok (ρ k) w:=by
      have h1:es'[i]? = some en:=by simpa using hn2
      rw[h1]
      simp only[Option.map_some,Option.getD_some,Instr.keyThatStays,xi hn3 9999,if_true]
      rfl
     simp only[execOp,ho,hmr,Instr.mapUpdate,Sem.run_bind,bm hu,Result.andThen_ok,dV hr hnc,run_checkKey hd hkk,hfk,hkey,lD hr hnc]
     rfl
   | none=>
     have h:(bF (Nat.succ c) λc'=>da (bits b) H (some (.map (es++[⟨kv,xv,c⟩]) c')) λH=>eC.val undef H nx)= .val v H' nx':=h
     rw[ba,a_]at h
     cases h
     refine fin _ (es'.push { key:=ρ k,val:=ρ x,born:=c }) (c+1) (by rw[Array.toList_push];exact hml.append (.cons ⟨hkv,hxv,rfl⟩ .nil)) ?_
     simp only[execOp,ho,hmr,Instr.mapUpdate,Sem.run_bind,bm hu,Result.andThen_ok,dV hr hnc,run_checkKey hd hkk,hfk,lD hr hnc]
     rfl
theorem nQ.filter {l l':List MapEntry}(h:nQ φ l l')(p:Nat->Bool):nQ φ (l.filter λe=>p e.born) (l'.filter λe=>p e.born):=by
 induction h with
 | nil=>exact .nil
 | @cons e e' l l' he hl ih=>
   simp only[List.filter_cons,he.born]
   split
   . exact .cons he ih
   . exact ih
theorem nQ.all {l l':List MapEntry}(h:nQ φ l l')(p:Nat->Bool):(l'.all λe=>p e.born)=(l.all λe=>p e.born):=by
 induction h with
 | nil=>rfl
 | cons he _ ih=>simp only[List.all_cons,he.born,ih]
theorem IV (hH:HR P W φ (hp H) w)(bW:φ.length=nx){x:Operand}{isS:Bool}(ho:o.op= .next x isS)(hE:∀v,bz P tm x=some v->VR φ v (ρ x))
 (h:yS H nx (bz P tm x) isS= .val v H' nx'):iy P W φ H w ((execOp ρ o).run P w) v H' nx':=by
 unfold yS at h
 cases isS with
 | true=>cases h
 | false=>
   have h:wL (bz P tm x) (λr off=>bif Nat.beq off 0 then qa (H.get (bits r)) (λm since seen last=>match m with
    | none=>eC.val (.tuple #[.bool false]) H nx
    | some m=>sJ H nx r m since last seen) .bad else .bad) .bad= .val v H' nx':=h
   obtain⟨r,off,hx,h⟩:=qv h
   obtain⟨h0,h⟩:=cX h
   have h0:=beq_eq h0
   subst h0
   obtain⟨m,since,seen,last,hg,h⟩:=sY h
   obtain⟨e,hb,_,hxr⟩:=(hE _ hx).ek
   have hgb:hp H r=some (.iter m since seen last):=hg
   obtain⟨hab,m',seen',hr,hseen,hmn⟩:=hH.obj r _ e hgb hb
   have hnc:∀c' e' f,Obj.mapIter m' since seen' last ≠ .cells c' e' f:=λ_ _ _=>by simp
   have over:(execOp ρ o).run P w= .ok (.value (.tuple #[.bool false])) w->iy P W φ H w ((execOp ρ o).run P w) (.tuple #[.bool false]) H nx:=λhrun=>
    ⟨φ,_,w,_,hrun,.inl rfl,.flat _ rfl,φ.le_refl,hH,bW,eP.refl _ _⟩
   cases m with
   | none=>
     cases m' with
     | some _=>exact hmn.elim
     | none=>
       have h:eC.val (.tuple #[.bool false]) H nx= .val v H' nx':=h
       cases h
       refine over ?_
       simp only[execOp,ho,hxr,Instr.next,Sem.run_bind,dV hr hnc,Result.andThen_ok]
       rfl
   | some m=>
     cases m' with
     | none=>exact hmn.elim
     | some m'=>
       obtain⟨em,hbm,rfl⟩:=hmn
       have h:sJ H nx r m since last seen= .val v H' nx':=h
       unfold sJ at h
       obtain⟨es,c,hgm,h⟩:=mi h
       obtain⟨_,es',hrm,hml⟩:=hH.obj m _ em (show hp H m=some (.map es c)from hgm) hbm
       have hncm:∀c' e' f,Obj.map es' c ≠ .cells c' e' f:=λ_ _ _=>by simp
       cases hbad: !seen.isEmpty && !es.isEmpty&&es.all (λe=>Nat.ble last e.born)with
       | true=>rw[hbad]at h;cases h
       | false=>
         rw[hbad]at h
         have h:yR H nx r m since c seen (es.filter λe=> !seen.contains e.born)= .val v H' nx':=h
         have hsn:∀b,seen'.contains b=seen.contains b:=λb=>by rw[<- hseen];simp
         have h1:seen'.isEmpty=seen.isEmpty:=by rw[<- hseen];simp
         have h2:es'.isEmpty=es.isEmpty:=by
          have hl:=hml.length
          have:es'.toList.isEmpty=es.isEmpty:=by
           cases es with
           | nil=>cases hq:es'.toList with
             | nil=>rfl
             | cons a l=>rw[hq]at hl;simp at hl
           | cons a l=>cases hq:es'.toList with
             | nil=>rw[hq]at hl;simp at hl
             | cons b m=>rfl
          rw[<- this];simp
         have h3:(es'.all λe=>decide (e.born>=last))=es.all (λe=>Nat.ble last e.born):=by
          have:=hml.all (λb=>decide (b>=last))
          rw[<- Array.all_toList,this]
          congr 1
          funext e
          rw[Bool.eq_iff_iff]
          simp only[decide_eq_true_eq]
          exact⟨λq=>Nat.ble_eq_true_of_le q,λq=>cL q⟩
         have hcond:(!seen'.isEmpty && !es'.isEmpty&&es'.all (λe=>decide (e.born>=last)))=false:=by rw[h1,h2,h3];exact hbad
         have hcond':¬((!seen'.isEmpty && !es'.isEmpty&&es'.all (λe=>decide (e.born>=last)))=true):=by rw[hcond];decide
         have hleft:=hml.filter (λb=> !seen.contains b)
         have hle:es'.filter (λe=> !seen'.contains e.born)=(es'.toList.filter λe=> !seen.contains e.born).toArray:=by
          apply Array.ext'
          simp only[Array.toList_filter,hsn]
         generalize hL:(es'.toList.filter λe=> !seen.contains e.born)=L' at hleft hle
         generalize hLo:(es.filter λe=> !seen.contains e.born)=L at hleft h
         cases hleft with
         | nil=>
           have h:eC.val (.tuple #[.bool false]) H nx= .val v H' nx':=h
           cases h
           refine over ?_
           simp only[execOp,ho,hxr,Instr.next,Sem.run_bind,dV hr hnc,dV hrm hncm,Result.andThen_ok]
           rw[if_neg hcond',hle]
           simp[Question.forced]
         | @cons e1 e1' l l' he1 hl=>
           cases l with
           | cons _ _=>cases h
           | nil=>
             cases hl
             obtain⟨hlt,h⟩:=cX (show(bif Nat.blt e1.born since then da (bits r) H (some (.iter (some m) since (seen++[e1.born]) c)) (λH=>eC.val (.tuple #[.bool true,e1.key,e1.val]) H nx)else .bad)= .val v H' nx' from h)
             rw[a_]at h
             cases h
             have hlt:=eD hlt
             have hb1:=he1.born
             have hrun:(execOp ρ o).run P w= .ok (.value (.tuple #[.bool true,e1'.key,e1'.val])) { w with heap:=w.heap.setIfInBounds e.r (.mapIter (some em.r) since (seen'.push e1'.born) c) }:=by
              have c1:¬(since<=e1'.born):=by omega
              have c2:e1'.born<since:=by omega
              simp only[execOp,ho,hxr,Instr.next,Sem.run_bind,dV hr hnc,dV hrm hncm,Result.andThen_ok]
              rw[if_neg hcond',hle]
              simp[Question.forced,c1,c2,lD hr hnc]
             refine⟨φ,_,_,_,hrun,.inl rfl,(LR.cons (.flat (.bool true) rfl) (LR.cons he1.key (LR.cons he1.val LR.nil))).tuple,φ.le_refl,?_,bW,by rw[bB];exact xh hb _⟩
             rw[bB]
             exact hH.setObj hgb rfl hb _ ⟨hab,some em.r,seen'.push e1'.born,heap_set hr,by rw[Array.toList_push,hseen,hb1],em,hbm,rfl⟩
theorem nQ.find {l l':List MapEntry}(h:nQ φ l l')(st:Nat){e:MapEntry}(hf:l.find? (λe=>e.born == st)=some e):∃e',l'.find? (λe=>e.born == st)=some e'/\U7 φ e e':=by
 induction h with
 | nil=>cases hf
 | @cons a a' l l' ha _ ih=>
   simp only[List.find?_cons,ha.born]at hf ⊢
   cases hb:a.born == st with
   | true=>rw[hb]at hf;cases hf;exact⟨a',rfl,ha⟩
   | false=>rw[hb]at hf;exact ih hf
theorem EX (hH:HR P W φ (hp H) w)(bW:φ.length=nx){x:Operand}(ho:o.op= .entry x)(hE:∀v,bz P tm x=some v->VR φ v (ρ x))
 (h:tR H nx (bz P tm x)= .val v H' nx'):iy P W φ H w ((execOp ρ o).run P w) v H' nx':=by
 unfold tR at h
 obtain⟨r,off,hx,h⟩:=qv h
 obtain⟨h0,h⟩:=cX h
 have h0:=beq_eq h0
 subst h0
 obtain⟨m,since,seen,last,hg,h⟩:=sY h
 cases m with
 | none=>cases h
 | some m=>
 rw[aJ]at h
 obtain⟨st,hst,h⟩:=ca h
 obtain⟨es,c,hgm,h⟩:=mi h
 obtain⟨hc,h9⟩:=cX h
 have hc:=beq_eq hc
 subst hc
 obtain⟨e,hb,_,hxr⟩:=(hE _ hx).ek
 obtain⟨hab,m',seen',hr,hseen,hmn⟩:=hH.obj r _ e (show hp H r=some (.iter (some m) since seen c)from hg) hb
 cases m' with
 | none=>exact hmn.elim
 | some m'=>
   obtain⟨em,hbm,rfl⟩:=hmn
   obtain⟨_,es',hrm,hml⟩:=hH.obj m _ em (show hp H m=some (.map es c)from hgm) hbm
   have hnc:∀c' e' f,Obj.mapIter (some em.r) since seen' c ≠ .cells c' e' f:=λ_ _ _=>by simp
   have hncm:∀c' e' f,Obj.map es' c ≠ .cells c' e' f:=λ_ _ _=>by simp
   have hback:seen'.back? = some st:=by rw[<- hst,<- hseen];simp
   unfold tQ at h9
   cases hf:es.find? (λe=>e.born == st)with
   | none=>simp only[hf]at h9;cases h9
   | some e1=>
     simp only[hf]at h9
     cases h9
     obtain⟨e1',hf',he1⟩:=hml.find st hf
     have hf2:es'.find? (λe=>e.born == st)=some e1':=by simpa using hf'
     refine⟨φ,_,w,_,?_,.inl rfl,(LR.cons he1.key (LR.cons he1.val LR.nil)).tuple,φ.le_refl,hH,bW,eP.refl _ _⟩
     simp[execOp,ho,hxr,Instr.entry,dV hr hnc,dV hrm hncm,hback,hf2]
theorem qz (hH:HR P W φ (hp H) w)(bW:φ.length=nx)(hE:m8 P φ tm ρ o.op.operands.toList)(h:ef P H nx tm o= .val v H' nx'):
 iy P W φ H w ((execOp ρ o).run P w) v H' nx':=by
 unfold ef at h
 cases ho:o.op with
 | alloc e=>simp only[ho]at h;exact EV hH bW ho h
 | box e x=>simp only[ho]at h;exact Nf hH bW ho (λv hv=>hE x (by rw[ho];simp[Op.operands]) v hv) h
 | store t a x=>simp only[ho]at h;exact xd hH bW ho (by rw[ho]at hE;exact hE) h
 | buildSlice t len ps=>simp only[ho]at h;exact so hH bW ho hE h
 | makeSlice t l c=>simp only[ho]at h;exact ud hH bW ho (by rw[ho]at hE;exact hE) h
 | makeMap t r=>
   simp only[ho]at h
   cases r with
   | none=>exact ze hH bW ho h
   | some x=>cases h
 | mapUpdate t m k x=>simp only[ho]at h;exact mj hH bW ho (by rw[ho]at hE;exact hE) h
 | insert t m k x=>
   simp only[ho]at h
   have h2:=mj (o:={ o with op:= .mapUpdate t m k x }) hH bW rfl (by rw[ho]at hE;exact hE) h
   have e:execOp ρ o=execOp ρ { o with op:= .mapUpdate t m k x }:=by simp only[execOp,ho]
   rw[e];exact h2
 | range t x=>simp only[ho]at h;exact EW hH bW ho (λv hv=>hE x (by rw[ho];simp[Op.operands]) v hv) h
 | next x b=>simp only[ho]at h;exact IV hH bW ho (λv hv=>hE x (by rw[ho];simp[Op.operands]) v hv) h
 | entry x=>simp only[ho]at h;exact EX hH bW ho (λv hv=>hE x (by rw[ho];simp[Op.operands]) v hv) h
 | defer c=>
   simp only[ho]at h
   unfold jc at h
   split at h<;>cases h
 | panic x=>
   simp only[ho]at h
   unfold yT at h
   split at h<;>cases h
 | call c=>
   simp only[ho]at h
   unfold gE at h
   split at h
   . unfold wP at h
     split at h
     . obtain⟨l,_,h⟩:=ca h
       obtain⟨_,h⟩:=cX h
       cases h
     . cases h
   . rename_i hc
     exact DZ hH bW hc ho (λx hx v hv=>hE x (by rw[ho];simp[Op.operands,Call.operands,hc];simpa using hx) v hv) h
   . cases h
   . cases h
   . cases h
 | _=>simp only[ho]at h;cases h
theorem D1 {α:Type}{x:Option α}{k:α->eC}{f:FuncId}{l:List Value}(h:aa x k .bad= .call f l):∃a,x=some a/\k a= .call f l:=by
 cases x with
 | none=>cases h
 | some a=>exact⟨a,rfl,h⟩
theorem EY {b:Bool}{x:eC}{f:FuncId}{l:List Value}(h:(bif b then x else .bad)= .call f l):b=true/\x= .call f l:=by
 cases b
 . cases h
 . exact⟨rfl,h⟩
theorem zf {f:FuncId}(h:jY P f=true):∃fn,P.funcs[f]? = some fn/\fn.body.isSome=true/\(fn.name == "runtime.NumGoroutine")=false:=by
 unfold jY at h
 split at h
 . rename_i fn hfn
   simp only[Bool.and_eq_true,Bool.not_eq_true']at h
   exact⟨fn,hfn,h.1,h.2⟩
 . cases h
theorem ml {f:FuncId}(h:jY P f=true)(args:Array Value)(w:World):(callFunc f args).run P w= .ok (.enter f args) w:=by
 obtain⟨fn,h1,h2,h3⟩:=zf h
 have h2':fn.body.isNone=false:=by cases hb:fn.body<;>simp_all
 simp only[callFunc,Sem.run_bind,run_program,Result.andThen_ok,h1]
 simp[h3,h2']
theorem xj {c:Call}{fv:Operand}(hE:m8 P φ tm ρ (fv::c.args.toList)){f:FuncId}{l:List Value}(h:wP P (bz P tm fv) (oF P tm c.args.toList)= .call f l):
 ∃a' cap',ρ fv= .func (.func f) #[] ⟨cap'⟩/\a'=c.args.toList.map ρ/\LR φ l (a'++cap')/\jY P f=true:=by
 unfold wP at h
 split at h
 . rename_i g cap hf
   obtain⟨vs,hvs,h⟩:=D1 h
   obtain⟨hok,h⟩:=EY h
   cases h
   obtain⟨cap',hv',hcap⟩:=(hE fv (by simp) _ hf).EL
   have hargs:=ng _ _ (λx hx=>hE x (by simp[hx])) hvs
   exact⟨_,cap',hv',rfl,hargs.append hcap,hok⟩
 . cases h
def PL (e:eC):Prop:=match e with
 | .val _ _ _=>True
 | .bad=>True
 | _=>False
theorem cN {α:Type}{x:Option α}{k:α->eC}(h:∀a,PL (k a)):PL (aa x k .bad):=by
 cases x with
 | none=>trivial
 | some a=>exact h a
theorem dc {b:Bool}{x y:eC}(h:PL x)(h':PL y):PL (bif b then x else y):=by
 cases b
 . exact h'
 . exact h
theorem qA {H:T OB}{nx:Nat}{e:TypeId}{m:Nat}{l:List Value}:PL (h_ H nx e m l):=by rw[ig];trivial
theorem lE {t:TypeId}{k:TypeId->Nat->eC}(h:∀e s,PL (k e s)):PL (du P t k .bad):=by
 unfold du
 split
 . exact cN λs=>h _ s
 . trivial
theorem sZ {x:Option OB}{k:Nat->T Value->TypeId->eC}(h:∀n t e,PL (k n t e)):PL (dJ x k .bad):=by
 unfold dJ
 split
 . exact h _ _ _
 . trivial
theorem ue {x:Option Value}{k:Nat->Nat->eC}(h:∀a b,PL (k a b)):PL (wL x k .bad):=by
 unfold wL
 split
 . exact h _ _
 . trivial
theorem mm {x:Option OB}{k:List MapEntry->Nat->eC}(h:∀a b,PL (k a b)):PL (wR x k .bad):=by
 unfold wR
 split
 . exact h _ _
 . trivial
theorem xk {x:Option OB}{k:Option Nat->Nat->List Nat->Nat->eC}(h:∀a b c d,PL (k a b c d)):PL (qa x k .bad):=by
 unfold qa
 split
 . exact h _ _ _ _
 . trivial
theorem xm {t:TypeId}{k:TypeDesc->TypeId->eC}(h:∀a b,PL (k a b)):PL (nO P t k .bad):=by
 unfold nO
 split
 . exact cN λd=>dc (h _ _) trivial
 . trivial
theorem AA {e:TypeId}{s sl sc xl:Nat}{base:Option Addr}{xs:List Value}:PL (sj P H nx e s base sl sc xl xs):=by
 unfold sj
 split
 . exact dc (dc trivial qA) trivial
 . unfold wQ
   refine sZ λn tr el=>dc ?_ (dc ?_ ?_)
   . unfold Qo
     refine dc (cN λold=> ?_) trivial
     rw[a_]
     exact qA
   . unfold DL
     refine dc ?_ trivial
     rw[cW,a_,ba]
     trivial
   . unfold nP
     exact dc (cN λold=>qA) trivial
 . trivial
theorem s9 {ts:List TypeId}{l:Option (List Value)}:PL (a9 P H nx ts l):=by
 unfold a9
 split
 . exact dc (lE λe s=>dc AA trivial) trivial
 . unfold l4
   split
   . exact dc trivial (lE λe s=>cN λp=>dc AA trivial)
   . trivial
theorem AB {b:Nat}{es:List MapEntry}{c:Nat}{k v:Value}{r:Option (Option (Nat×Value))}:PL (M0 H nx b es c k v r):=by
 unfold M0
 split
 . rw[a_];trivial
 . rw[ba,a_];trivial
 . trivial
theorem qB {m:Option Nat}{c:Nat}:PL (kH H nx m c):=by unfold kH;rw[a_,ba];trivial
theorem EZ {r m since last:Nat}{seen:List Nat}:PL (sJ H nx r m since last seen):=by
 unfold sJ
 refine mm λes c=>dc trivial ?_
 unfold yR
 split
 . trivial
 . refine dc ?_ trivial
   rw[a_];trivial
 . trivial
theorem D2 {es:List MapEntry}{st:Nat}:PL (tQ H nx es st):=by
 unfold tQ
 split<;>trivial
theorem qC {c:Call}{f:FuncId}{l:List Value}(h:gE P H nx tm c= .call f l):∃fv,c.callee= .value fv/\wP P (bz P tm fv) (oF P tm c.args.toList)= .call f l:=by
 unfold gE at h
 split at h
 . rename_i fv hc;exact⟨fv,hc,h⟩
 . have:=s9 (P:=P) (H:=H) (nx:=nx) (ts:=c.argTypes.toList) (l:=oF P tm c.args.toList)
   rw[h]at this
   exact this.elim
 . cases h
 . cases h
 . cases h
theorem E0 (h1:∀c,o.op ≠ .call c)(h2:∀c,o.op ≠ .defer c)(h3:∀x,o.op ≠ .panic x):PL (ef P H nx tm o):=by
 unfold ef
 cases ho:o.op with
 | call c=>exact absurd ho (h1 c)
 | defer c=>exact absurd ho (h2 c)
 | panic x=>exact absurd ho (h3 x)
 | alloc e=>
   refine cN λl=> ?_
   rw[eo];trivial
 | box e x=>
   refine cN λl=> ?_
   rw[eo];trivial
 | store t a x=>
   refine ue λb off=>cN λv=>sZ λn tr e=>cN λs=>dc ?_ trivial
   rw[cW,a_];trivial
 | buildSlice t len ps=>
   refine cN λvs=>lE λe s=>cN λz=>dc (cN λcs=> ?_) trivial
   rw[eo,ba];trivial
 | makeSlice t a c=>
   show PL (gu P H nx t (bz P tm a) (bz P tm c))
   unfold gu
   split
   . rename_i i j e _ _ _
     cases i with
     | negSucc i=>exact trivial
     | ofNat i=>
     cases j with
     | negSucc j=>
       show PL (hZ ((i:Nat):Int) (λl=>hZ (Int.negSucc j) (λc=>DK P H nx e l c) .bad) .bad)
       rw[fm]
       exact trivial
     | ofNat j=>
     show PL (hZ ((i:Nat):Int) (λl=>hZ ((j:Nat):Int) (λc=>DK P H nx e l c) .bad) .bad)
     rw[fm,fm]
     unfold DK
     split
     . refine dc ?_ trivial
       split
       . rw[a_,ba];trivial
       . refine dc ?_ trivial
         rw[eo];trivial
     . trivial
   . trivial
 | makeMap t r=>
   cases r with
   | none=>
     show PL (da (bits nx) H (some (.map [] 0)) λH=>bF (Nat.succ nx) λn=>eC.val (.map (some nx)) H n)
     rw[a_,ba];trivial
   | some x=>trivial
 | mapUpdate t m k x=>exact xm λd et=>cN λb=>cN λk=>cN λv=>mm λes c=>AB
 | insert t m k x=>exact xm λd et=>cN λb=>cN λk=>cN λv=>mm λes c=>AB
 | range t x=>
   refine dc ?_ trivial
   split
   . exact qB
   . exact mm λes c=>qB
   . trivial
 | next x b=>
   refine dc trivial (ue λr off=>dc (xk λm s l c=> ?_) trivial)
   cases m with
   | none=>trivial
   | some m=>exact EZ
 | entry x=>exact ue λr off=>dc (xk λm s l c=>cN λm=>cN λst=>mm λes c=>dc D2 trivial) trivial
 | _=>trivial
theorem AD {e:eC}(h:ef P H nx tm o=e)(hp:¬PL e):(∃c,o.op= .call c/\gE P H nx tm c=e)\/(∃c,o.op= .defer c/\jc (gE P H nx tm c)=e)\/
 (∃x,o.op= .panic x/\yT (bz P tm x)=e):=by
 by_cases h1:∃c,o.op= .call c
 . obtain⟨c,hc⟩:=h1
   refine .inl ⟨c,hc,?_⟩
   rw[<- h];unfold ef;simp only[hc]
 . by_cases h2:∃c,o.op= .defer c
   . obtain⟨c,hc⟩:=h2
     refine .inr (.inl ⟨c,hc,?_⟩)
     rw[<- h];unfold ef;simp only[hc]
   . by_cases h3:∃x,o.op= .panic x
     . obtain⟨x,hx⟩:=h3
       refine .inr (.inr ⟨x,hx,?_⟩)
       rw[<- h];unfold ef;simp only[hx]
     . have:=E0 (P:=P) (H:=H) (nx:=nx) (tm:=tm) (o:=o) (λc q=>h1 ⟨c,q⟩) (λc q=>h2 ⟨c,q⟩) (λc q=>h3 ⟨c,q⟩)
       rw[h]at this
       exact absurd this hp
theorem D3 {f:Option Value}{l:Option (List Value)}:(∃g a,wP P f l= .call g a)\/wP P f l= .bad:=by
 unfold wP
 split
 . cases l with
   | none=>exact .inr rfl
   | some l=>
     rw[aJ]
     rename_i g cap
     cases jY P g with
     | true=>exact .inl ⟨_,_,rfl⟩
     | false=>exact .inr rfl
 . exact .inr rfl
theorem lF {c:Call}:(∀f l,gE P H nx tm c ≠ .Qm f l)/\(∀v,gE P H nx tm c ≠ .fR v)/\(gE P H nx tm c= .Qn->c.callee= .builtin .recover):=by
 unfold gE
 split
 . rcases D3 (P:=P) (f:=bz P tm _) (l:=oF P tm c.args.toList)with⟨g,a,h⟩ | h
   . rw[h];exact⟨λ_ _ q=>(nomatch q),λ_ q=>(nomatch q),λq=>(nomatch q)⟩
   . rw[h];exact⟨λ_ _ q=>(nomatch q),λ_ q=>(nomatch q),λq=>(nomatch q)⟩
 . have:=s9 (P:=P) (H:=H) (nx:=nx) (ts:=c.argTypes.toList) (l:=oF P tm c.args.toList)
   refine⟨λf l q=> ?_,λv q=> ?_,λq=> ?_⟩<;>(rw[q]at this;exact this.elim)
 . rename_i hc;exact⟨λ_ _ q=>(nomatch q),λ_ q=>(nomatch q),λ_=>hc⟩
 . exact⟨λ_ _ q=>(nomatch q),λ_ q=>(nomatch q),λq=>(nomatch q)⟩
 . exact⟨λ_ _ q=>(nomatch q),λ_ q=>(nomatch q),λq=>(nomatch q)⟩
theorem AE {f:FuncId}{l:List Value}(hE:m8 P φ tm ρ o.op.operands.toList)(h:ef P H nx tm o= .call f l):
 ∃l',LR φ l l'/\jY P f=true/\∀w,(execOp ρ o).run P w= .ok (.enter f l'.toArray) w:=by
 obtain⟨c,ho,h⟩:∃c,o.op= .call c/\gE P H nx tm c= .call f l:=by
  rcases AD h (λq=>q)with q | ⟨c,_,q⟩ | ⟨x,_,q⟩
  . exact q
  . unfold jc at q;split at q<;>cases q
  . unfold yT at q;split at q<;>cases q
 obtain⟨fv,hc,h⟩:=qC h
 have hops:o.op.operands.toList=fv::c.args.toList:=by rw[ho];simp[Op.operands,Call.operands,hc]
 rw[hops]at hE
 obtain⟨a',cap',hv',rfl,hLR,hok⟩:=xj hE h
 refine⟨_,hLR,hok,λw=> ?_⟩
 have e1:(c.args.map ρ++⟨cap'⟩:Array Value)=(c.args.toList.map ρ++cap').toArray:=Array.ext' (by simp)
 simp only[execOp,ho,resolve,hc,hv',Deferred.ofValue,Sem.run_bind,Sem.run_pure,Result.andThen_ok,invoke]
 simp[ml hok,e1]
def QO (P:Program)(φ:cA)(d:FuncId×List Value)(d':Deferred):Prop:=∃a' cap',d'={ target:= .fn (.func d.1) ⟨cap'⟩,args:=a' }/\LR φ d.2 (a'.toList++cap')/\jY P d.1=true
theorem QO.mono {φ':cA}(hle:φ.le φ'){d:FuncId×List Value}{d':Deferred}(h:QO P φ d d'):QO P φ' d d':=by
 obtain⟨a,b,c,d,e⟩:=h
 exact⟨a,b,c,d.mono hle,e⟩
theorem Nh {f:FuncId}{l:List Value}(hE:m8 P φ tm ρ o.op.operands.toList)(h:ef P H nx tm o= .Qm f l):∃d',QO P φ (f,l) d'/\∀w,(execOp ρ o).run P w= .ok (.defer d') w:=by
 rcases AD h (λq=>q)with⟨c,_,q⟩ | ⟨c,ho,q⟩ | ⟨x,_,q⟩
 . exact absurd q (lF.1 f l)
 . unfold jc at q
   split at q
   . rename_i g a hq
     cases q
     obtain⟨fv,hc,hgo⟩:=qC hq
     have hops:o.op.operands.toList=fv::c.args.toList:=by rw[ho];simp[Op.operands,Call.operands,hc]
     rw[hops]at hE
     obtain⟨a',cap',hv',rfl,hLR,hok⟩:=xj hE hgo
     refine⟨_,⟨c.args.map ρ,cap',rfl,by simpa using hLR,hok⟩,λw=> ?_⟩
     simp[execOp,ho,resolve,hc,hv',Deferred.ofValue]
   . cases q
 . unfold yT at q;split at q<;>cases q
theorem E1 {v:Value}(hE:m8 P φ tm ρ o.op.operands.toList)(h:ef P H nx tm o= .fR v):∃v',VR φ v v'/\∀w,(execOp ρ o).run P w= .halt (.panic v') w:=by
 rcases AD h (λq=>q)with⟨c,_,q⟩ | ⟨c,_,q⟩ | ⟨x,ho,q⟩
 . exact absurd q (lF.2.1 v)
 . unfold jc at q;split at q<;>cases q
 . unfold yT at q
   split at q
   . rename_i t u hx
     cases q
     obtain⟨u',h1,h2⟩:=(hE x (by rw[ho];simp[Op.operands]) _ hx).iJ
     exact⟨_,.iface h2,λw=>by simp[execOp,ho,h1,Instr.panic]⟩
   . cases q
theorem Ni (h:ef P H nx tm o= .Qn)(w:World):(execOp ρ o).run P w= .ok .recover w:=by
 rcases AD h (λq=>q)with⟨c,ho,q⟩ | ⟨c,_,q⟩ | ⟨x,_,q⟩
 . have hc:=lF.2.2 q
   simp[execOp,ho,resolve,hc,invoke,builtin]
 . unfold jc at q;split at q<;>cases q
 . unfold yT at q;split at q<;>cases q
end ops
end
end
end Go.Ev
namespace Go.Ev
noncomputable section
set_option maxRecDepth 100000
set_option linter.unusedVariables false
set_option linter.unusedSimpArgs false
section
variable {P:Program}{H H':T OB}{tm tm':T Value}
theorem j7:∀(ps:List (Nat×Operand)),(∀p∈ps,bz P tm' p.2=bz P tm p.2)->parts P tm' ps=parts P tm ps
 | [],_=>rfl
 | p::ps,h=>by simp only[parts,h p (by simp),j7 ps (λq hq=>h q (by simp[hq]))]
theorem nn:∀(l:List Operand),(∀x∈l,bz P tm' x=bz P tm x)->oF P tm' l=oF P tm l
 | [],_=>rfl
 | x::l,h=>by simp only[oF,h x (by simp),nn l (λy hy=>h y (by simp[hy]))]
theorem lG {x:Option Operand}(h:∀y∈x.toList,bz P tm' y=bz P tm y):fx P tm' x=fx P tm x:=by
 cases x with
 | none=>rfl
 | some y=>simp only[fx,h y (by simp)]
theorem E2 {o:Oper}(h:∀x∈o.op.operands.toList,bz P tm' x=bz P tm x):rd P H tm' o=rd P H tm o:=by
 unfold rd
 cases ho:o.op with
 | move x=>simp only[ho]at h;exact h x (by simp[Op.operands])
 | assign x=>simp only[ho]at h;exact h x (by simp[Op.operands])
 | pick c a b=>
   simp only[ho]at h
   show pX (bz P tm' c) (bz P tm' a) (bz P tm' b)=pX (bz P tm c) (bz P tm a) (bz P tm b)
   rw[h c (by simp[Op.operands]),h a (by simp[Op.operands]),h b (by simp[Op.operands])]
 | load t x=>simp only[ho]at h;show ae P H t (bz P tm' x)=ae P H t (bz P tm x);rw[h x (by simp[Op.operands])]
 | nilCheck x=>simp only[ho]at h;show bf (bz P tm' x)=bf (bz P tm x);rw[h x (by simp[Op.operands])]
 | fieldAddr s x f=>simp only[ho]at h;show ab P s (bz P tm' x) f=ab P s (bz P tm x) f;rw[h x (by simp[Op.operands])]
 | indexAddr t x ix=>
   simp only[ho]at h
   show au P t (bz P tm' x) (bz P tm' ix)=au P t (bz P tm x) (bz P tm ix)
   rw[h x (by simp[Op.operands]),h ix (by simp[Op.operands])]
 | extract x i=>simp only[ho]at h;show aA (bz P tm' x) i=aA (bz P tm x) i;rw[h x (by simp[Op.operands])]
 | field t x f=>simp only[ho]at h;show rdField P t (bz P tm' x) f=rdField P t (bz P tm x) f;rw[h x (by simp[Op.operands])]
 | slice t x lo hi mx=>
   have hops:o.op.operands.toList=[x]++lo.toList++hi.toList++mx.toList:=by rw[ho];cases lo<;>cases hi<;>cases mx<;>rfl
   rw[hops]at h
   show de P H t (bz P tm' x) (fx P tm' lo) (fx P tm' hi) (fx P tm' mx)=de P H t (bz P tm x) (fx P tm lo) (fx P tm hi) (fx P tm mx)
   rw[h x (by simp),lG (x:=lo) (λy hy=>h y (by simp[hy])),lG (x:=hi) (λy hy=>h y (by simp[hy])),lG (x:=mx) (λy hy=>h y (by simp[hy]))]
 | call c=>
   show p9 P tm' o c=p9 P tm o c
   unfold p9
   split
   all_goals first
    | rfl
    | (rename_i hc
       rw[nn c.args.toList (λx hx=>h x (by rw[ho];simp[Op.operands,Call.operands,hc];simpa using hx))])
 | makeFunc fn a b=>
   show p7 fn a.toList (oF P tm' b.toList)=p7 fn a.toList (oF P tm b.toList)
   rw[nn b.toList (λx hx=>h x (by rw[ho];simp[Op.operands];right;simpa using hx))]
 | typeAssert x xt t ok=>simp only[ho]at h;show gQ P (bz P tm' x) t ok=gQ P (bz P tm x) t ok;rw[h x (by simp[Op.operands])]
 | lookup t m k ok=>
   simp only[ho]at h
   show fG P H t (bz P tm' m) (bz P tm' k) ok=fG P H t (bz P tm m) (bz P tm k) ok
   rw[h m (by simp[Op.operands]),h k (by simp[Op.operands])]
 | convert s d x=>simp only[ho]at h;show cC P H s d (bz P tm' x)=cC P H s d (bz P tm x);rw[h x (by simp[Op.operands])]
 | index t x ix=>
   simp only[ho]at h
   show aU P t (bz P tm' x) (bz P tm' ix)=aU P t (bz P tm x) (bz P tm ix)
   rw[h x (by simp[Op.operands]),h ix (by simp[Op.operands])]
 | binOp op t x y yt=>
   simp only[ho]at h
   show al P H op t (si x||si y) (bz P tm' x) (bz P tm' y)=al P H op t (si x||si y) (bz P tm x) (bz P tm y)
   rw[h x (by simp[Op.operands]),h y (by simp[Op.operands])]
 | build t ps=>
   simp only[ho]at h
   show aw P t (parts P tm' ps.toList)=aw P t (parts P tm ps.toList)
   rw[j7 ps.toList (λp hp=>h p.2 (by
    show p.2∈((ps.toList.map (·.2)).toArray).toList
    simp only[List.toList_toArray]
    exact List.mem_map.2 ⟨p,hp,rfl⟩))]
 | makeInterface t x=>simp only[ho]at h;show jb P t (bz P tm' x)=jb P t (bz P tm x);rw[h x (by simp[Op.operands])]
 | unOp op _ x=>simp only[ho]at h;show eO P op (bz P tm' x)=eO P op (bz P tm x);rw[h x (by simp[Op.operands])]
 | _=>rfl
theorem AF {o:Oper}(h:l5 o.op=false):rd P H' tm o=rd P H tm o:=by
 unfold rd
 cases ho:o.op with
 | load t x=>rw[ho]at h;cases h
 | slice t x lo hi mx=>rw[ho]at h;cases h
 | lookup t m k ok=>rw[ho]at h;cases h
 | convert s d x=>rw[ho]at h;cases h
 | binOp op t x y yt=>rw[ho]at h;cases h
 | _=>rfl
theorem ss {ops:Array Oper}{o:Oper}(h:∀p,o.guard=some p->∀d,iG ops p.1=some d->tm'.get (bits d)=tm.get (bits d)):bO tm' ops o=bO tm ops o:=by
 unfold bO
 split
 . rfl
 . rename_i p hp
   cases hd:iG ops p.1 with
   | none=>rfl
   | some d=>
     show jZ tm' d p.2=jZ tm d p.2
     unfold jZ
     rw[h p hp d hd]
theorem qD {eq:Value->Value->Bool}(h:∀a b,eq a b=true->a=b):∀(l m:List Value),EE eq l m=true->l=m
 | [],[],_=>rfl
 | a::l,b::m,q=>by
   simp only[EE,Bool.and_eq_true]at q
   rw[h a b q.1,qD h l m q.2]
 | [],_::_,q=>by cases q
 | _::_,[],q=>by cases q
theorem qE:∀(n:Nat) (v w:Value),DN n v w=true->v=w
 | 0,_,_,h=>by cases h
 | n+1,v,w,h=>by
   have ih:=qE n
   unfold DN at h
   split at h
   all_goals first
    | (cases h;done)
    | rfl
    | (simp only[Bool.and_eq_true,beq_iff_eq,decide_eq_true_eq]at h;simp_all;done)
    | (simp only[Bool.and_eq_true,beq_iff_eq]at h;rw[h.1,ih _ _ h.2];done)
    | (rename_i a b;have:=qD ih _ _ h;rw[Array.toList_inj]at this;rw[this];done)
theorem D4 {v w:Value}(h:gI v w=true):v=w:=by
 unfold gI at h
 simp only[Bool.or_eq_true,decide_eq_true_eq]at h
 exact h.elim (qE 4 v w) id
theorem bj (v:Value):gI v v=true:=by unfold gI;simp
def qF (ops:Array Oper):List Nat->Prop
 | []=>True
 | i::l=>(∃o,ops[i]? = some o/\∀e∈o.after,Region.binds .any e=true->e.on∉i::l)/\i∉l/\qF ops l
theorem filter_lt {α:Type}(p q:α->Bool)(hpq:∀x,q x=true->p x=true):∀(l:List α) (x:α),x∈l->p x=true->q x=false->(l.filter q).length<(l.filter p).length
 | [],x,h,_,_=>by cases h
 | y::l,x,h,hp,hq=>by
   have hle:(l.filter q).length<=(l.filter p).length:=by
    clear h
    induction l with
    | nil=>simp
    | cons z l ih=>
      by_cases hqz:q z=true
      . rw[List.filter_cons_of_pos hqz,List.filter_cons_of_pos (hpq z hqz)]
        simp only[List.length_cons];omega
      . rw[List.filter_cons_of_neg hqz]
        by_cases hpz:p z=true
        . rw[List.filter_cons_of_pos hpz];simp only[List.length_cons];omega
        . rw[List.filter_cons_of_neg hpz];exact ih
   by_cases hyx:y=x
   . subst hyx
     simp[hp,hq];omega
   . have hx:x∈l:=by
      cases h with
      | head=>exact absurd rfl hyx
      | tail _ h=>exact h
     have ih:=filter_lt p q hpq l x hx hp hq
     by_cases hqy:q y=true
     . simp[hqy,hpq y hqy];exact ih
     . by_cases hpy:p y=true
       . simp[hqy,hpy];omega
       . simp[hqy,hpy];exact ih
def QP (ops:Array Oper)(listed:Array Bool):List Nat:=(List.range ops.size).filter λi=> !listed.getD i true
theorem Nj (ops:Array Oper)(hac:acyclic ops=true):∀(fuel t:Nat) (listed:Array Bool),listed.size=ops.size->(QP ops listed).length<=fuel->
 qF ops (Region.linearise.go .any ops fuel t listed [])/\(∀i∈Region.linearise.go .any ops fuel t listed [],listed.getD i true=false)/\
 (∀i,i<ops.size->listed.getD i true=false->i∈Region.linearise.go .any ops fuel t listed []):=by
 intro fuel
 induction fuel with
 | zero=>
   intro t listed _ hu
   refine⟨trivial,λi hi=>by simp[Region.linearise.go]at hi,λi hi hl=> ?_⟩
   have:i∈QP ops listed:=List.mem_filter.2 ⟨List.mem_range.2 hi,by simp only[hl];rfl⟩
   have:=List.length_pos_of_mem this
   omega
 | succ fuel ih=>
   intro t listed j4 hu
   simp only[Region.linearise.go]
   change (qF ops (match(Region.ready .any ops listed)[t % (Region.ready .any ops listed).length]? with
    | some i=>Region.linearise.go .any ops fuel (t/(Region.ready .any ops listed).length) (listed.setIfInBounds i true) [i]
    | none=>[].reverse))/\(∀i∈(match(Region.ready .any ops listed)[t % (Region.ready .any ops listed).length]? with
    | some i=>Region.linearise.go .any ops fuel (t/(Region.ready .any ops listed).length) (listed.setIfInBounds i true) [i]
    | none=>[].reverse),_)/\(∀i,_->_->i∈(match(Region.ready .any ops listed)[t % (Region.ready .any ops listed).length]? with
    | some i=>Region.linearise.go .any ops fuel (t/(Region.ready .any ops listed).length) (listed.setIfInBounds i true) [i]
    | none=>[].reverse))
   cases hi:(Region.ready .any ops listed)[t % (Region.ready .any ops listed).length]? with
   | none=>
     have hnil:Region.ready .any ops listed=[]:=by
      cases hr:Region.ready .any ops listed with
      | nil=>rfl
      | cons x xs=>
        rw[hr]at hi
        have hlt:t % (x::xs).length<(x::xs).length:=Nat.mod_lt _ (by simp)
        rw[List.getElem?_eq_getElem hlt]at hi
        cases hi
     refine⟨trivial,λi h=>by simp at h,?_⟩
     have key:∀n i,i<n->i<ops.size->listed.getD i true=true:=by
      intro n
      induction n with
      | zero=>intro i h;omega
      | succ n ihn=>
        intro i h hisz
        cases hl:listed.getD i true with
        | true=>rfl
        | false=>
          exfalso
          have:i∈Region.ready .any ops listed:=mem_ready.2 ⟨hl,ops[i],Array.getElem?_eq_getElem hisz,λe he hb=>by
           have h1:=List.all_eq_true.1 hac i (List.mem_range.2 hisz)
           rw[Array.getElem?_eq_getElem hisz]at h1
           have h2:=List.all_eq_true.1 h1 e (by simpa using he)
           simp only[hb,Bool.not_true,Bool.false_or]at h2
           have h3:=eD h2
           have h4:=ihn e.on (by omega) (by omega)
           simpa[Array.getD,show e.on<listed.size by omega]using h4⟩
          rw[hnil]at this
          cases this
     intro i hisz hl
     rw[key (i+1) i (by omega) hisz]at hl
     cases hl
   | some i=>
     have hmem:=List.mem_of_getElem? hi
     obtain⟨hl,o,ho,hdeps⟩:=mem_ready.1 hmem
     have hisz:i<ops.size:=(Array.getElem?_eq_some_iff.1 ho).1
     simp only[]
     rw[linearise_go_acc,List.reverse_singleton,List.singleton_append]
     have hset:∀j,j≠i->(listed.setIfInBounds i true).getD j true=listed.getD j true:=λj hj=>getD_set_ne true (Ne.symm hj)
     have hseti:(listed.setIfInBounds i true).getD i true=true:=by
      simp[Array.getD,show i<listed.size by omega]
     have hlt:(QP ops (listed.setIfInBounds i true)).length<(QP ops listed).length:=by
      refine filter_lt _ _ (λx hx=> ?_) _ i (List.mem_range.2 hisz) (by simp only[hl];rfl) (by simp only[hseti];rfl)
      by_cases hxi:x=i
      . subst hxi;rw[hseti]at hx;cases hx
      . rw[hset x hxi]at hx;exact hx
     obtain⟨h1,h2,h3⟩:=ih (t/(Region.ready .any ops listed).length) (listed.setIfInBounds i true) (by simp[j4]) (by omega)
     have hni:i∉Region.linearise.go .any ops fuel (t/(Region.ready .any ops listed).length) (listed.setIfInBounds i true) []:=λq=>by
      have:=h2 i q
      rw[hseti]at this
      cases this
     refine⟨⟨⟨o,ho,λe he hb q=> ?_⟩,hni,h1⟩,λj hj=> ?_,λj hj hlj=> ?_⟩
     . have h4:=hdeps e he hb
       rcases List.mem_cons.1 q with q | q
       . rw[q]at h4
         have h5:=hl
         simp only[Array.getD]at h4 h5
         split at h4<;>simp_all
       . have h5:=h2 e.on q
         by_cases hei:e.on=i
         . rw[hei,hseti]at h5;cases h5
         . rw[hset _ hei]at h5
           simp only[Array.getD]at h4 h5
           split at h4<;>simp_all
     . cases hj with
       | head=>exact hl
       | tail _ hj=>
         have h5:=h2 j hj
         by_cases hji:j=i
         . subst hji;exact hl
         . rw[hset _ hji]at h5;exact h5
     . by_cases hji:j=i
       . subst hji;simp
       . exact List.mem_cons_of_mem _ (h3 j hj (by rw[hset _ hji];exact hlj))
theorem D5 (ops:Array Oper)(hac:acyclic ops=true)(t:Nat):qF ops (Region.schedule true ops t)/\∀i,i<ops.size->i∈Region.schedule true ops t:=by
 have hrep:∀i,i<ops.size->(Array.replicate ops.size false).getD i true=false:=λi hi=>by simp[Array.getD,hi]
 have h:=Nj ops hac ops.size t (Array.replicate ops.size false) (by simp) (by
  unfold QP
  exact Nat.le_trans (List.length_filter_le _ _) (by simp))
 have e:Region.schedule true ops t=Region.linearise.go .any ops ops.size t (Array.replicate ops.size false) []:=rfl
 rw[e]
 exact⟨h.1,λi hi=>h.2.2 i hi (hrep i hi)⟩
end
end
end Go.Ev
namespace Go.Ev
open Go.RowKit (Below)
noncomputable section
set_option maxRecDepth 100000
set_option linter.unusedVariables false
set_option linter.unusedSimpArgs false
section
variable {P:Program}{W w:World}{φ:cA}{H:T OB}{tm:T Value}{tmps:Array Value}{ops:Array Oper}
structure FB where
 fn:FuncId
 kind:CallKind
 ds:List Deferred
def dp (b:FB)(tmps:Array Value)(todo:List Item):Frame:={ fn:=b.fn,tmps,todo,defers:=b.ds,mode:= .run,kind:=b.kind }
def dG (tmps:Array Value):Operand->Value:=Act.eval ⟨tmps,[]⟩
theorem xn (tmps:Array Value)(ds:List Deferred):Act.eval ⟨tmps,ds⟩=dG tmps:=by funext x;cases x<;>rfl
def iM (tmps:Array Value)(dst:Option Tmp)(v:Value):Array Value:=match dst with
 | some d=>tmps.setIfInBounds d v
 | none=>tmps
theorem E3 (tmps:Array Value)(ds:List Deferred)(dst:Option Tmp)(v:Value):(Act.put ⟨tmps,ds⟩ dst v)=⟨iM tmps dst v,ds⟩:=by cases dst<;>rfl
theorem d_ (tmps:Array Value)(dst:Option Tmp)(v:Value):(iM tmps dst v).size=tmps.size:=by cases dst<;>simp[iM]
section steps
variable {fn:FB}{i:Nat}{rest:List Nat}{k:List Item}{cs:List Frame}{w':World}{o:Oper}
theorem lH (ho:ops[i]? = some o)(v:Value):(dp fn tmps (.inRegion ops (i::rest)::k)).finish v=dp fn (iM tmps o.dst v) (.inRegion ops rest::k):=by
 have:=Frame.finish_at (dp fn #[] []) ⟨tmps,fn.ds⟩ ops i rest k v
 rw[ho]at this
 rw[show((some o:Option Oper).bind (·.dst))=o.dst from rfl,E3]at this
 exact this
theorem zg (ho:ops[i]? = some o)(hw:Region.wanted o (yielded ops tmps)=true):
 stepG P true { frame:=dp fn tmps (.inRegion ops (i::rest)::k),callers:=cs,status:= .running,dying:=none } w=
  stepG.apply P true (dp fn tmps (.inRegion ops (i::rest)::k)) cs none (execOp (dG tmps) o) w:=by
 have:=stepG_op (P:=P) (b:=dp fn #[] []) (a:=⟨tmps,fn.ds⟩) (cs:=cs) (w:=w) (k:=k) (rest:=rest) ho hw
 rw[xn]at this
 exact this
theorem eF (ho:ops[i]? = some o)(hw:Region.wanted o (yielded ops tmps)=true){v:Value}(hr:(execOp (dG tmps) o).run P w= .ok (.value v) w'):
 step P (lone (dp fn tmps (.inRegion ops (i::rest)::k)) cs w)= .next (lone (dp fn (iM tmps o.dst v) (.inRegion ops rest::k)) cs w'):=
 step_lone_go (by rw[zg ho hw,<- lH ho];simp[stepG.apply,hr])
theorem qG (ho:ops[i]? = some o)(hw:Region.wanted o (yielded ops tmps)=true)(hr:(execOp (dG tmps) o).run P w= .ok .skip w'):
 step P (lone (dp fn tmps (.inRegion ops (i::rest)::k)) cs w)= .next (lone (dp fn (iM tmps o.dst undef) (.inRegion ops rest::k)) cs w'):=
 step_lone_go (by rw[zg ho hw,<- lH ho];simp[stepG.apply,hr])
theorem jk (ho:ops[i]? = some o)(hw:Region.wanted o (yielded ops tmps)=true){f:FuncId}{args:Array Value}(hr:(execOp (dG tmps) o).run P w= .ok (.enter f args) w'):
 step P (lone (dp fn tmps (.inRegion ops (i::rest)::k)) cs w)=
  .next (lone (Frame.enter P f args .normal) (dp fn tmps (.inRegion ops (i::rest)::k)::cs) w'):=
 step_lone_go (by rw[zg ho hw];simp[stepG.apply,hr,dp])
theorem E4 (ho:ops[i]? = some o)(hw:Region.wanted o (yielded ops tmps)=true){d:Deferred}(hr:(execOp (dG tmps) o).run P w= .ok (.defer d) w'):
 step P (lone (dp fn tmps (.inRegion ops (i::rest)::k)) cs w)= .next (lone (dp ⟨fn.fn,fn.kind,d::fn.ds⟩ (iM tmps o.dst undef) (.inRegion ops rest::k)) cs w'):=
 step_lone_go (by
  rw[zg ho hw,<- lH (fn:=⟨fn.fn,fn.kind,d::fn.ds⟩) ho]
  simp only[stepG.apply,Sem.runT_eq,hr,GStep.bare_after]
  rfl)
theorem xo (ho:ops[i]? = some o)(hw:Region.wanted o (yielded ops tmps)=true){v:Value}(hr:(execOp (dG tmps) o).run P w= .halt (.panic v) w'):
 step P (lone (dp fn tmps (.inRegion ops (i::rest)::k)) cs w)= .next (lone { dp fn tmps (.inRegion ops (i::rest)::k)with mode:= .panicking [{ v,recovered:=false }] } cs w'):=
 step_lone_go (by
  rw[zg ho hw]
  simp only[stepG.apply,Sem.runT_eq,hr,GStep.bare_after]
  rfl)
theorem su (ho:ops[i]? = some o)(hw:Region.wanted o (yielded ops tmps)=true)(hr:(execOp (dG tmps) o).run P w= .ok .recover w')
 (ht:tryRecover (dp fn tmps (.inRegion ops (i::rest)::k)) cs=none):
 step P (lone (dp fn tmps (.inRegion ops (i::rest)::k)) cs w)= .next (lone (dp fn (iM tmps o.dst .nilIface) (.inRegion ops rest::k)) cs w'):=
 step_lone_go (by
  rw[zg ho hw,<- lH ho]
  have ht':tryRecover { fn:=fn.fn,tmps,todo:= .inRegion ops (i::rest)::k,defers:=fn.ds,mode:= .run,kind:=fn.kind } cs=none:=ht
  simp[stepG.apply,hr,dp,ht'])
theorem sw (ho:ops[i]? = some o)(hw:Region.wanted o (yielded ops tmps)=true)(hr:(execOp (dG tmps) o).run P w= .ok .recover w'){v:Value}{cs':List Frame}
 (ht:tryRecover (dp fn tmps (.inRegion ops (i::rest)::k)) cs=some (v,cs')):
 step P (lone (dp fn tmps (.inRegion ops (i::rest)::k)) cs w)= .next (lone (dp fn (iM tmps o.dst v) (.inRegion ops rest::k)) cs' w'):=
 step_lone_go (by
  rw[zg ho hw,<- lH ho]
  have ht':tryRecover { fn:=fn.fn,tmps,todo:= .inRegion ops (i::rest)::k,defers:=fn.ds,mode:= .run,kind:=fn.kind } cs=some (v,cs'):=ht
  simp[stepG.apply,hr,dp,ht'])
theorem qH (ho:ops[i]? = some o)(hw:Region.wanted o (yielded ops tmps)=false):
 step P (lone (dp fn tmps (.inRegion ops (i::rest)::k)) cs w)= .next (lone (dp fn (iM tmps o.dst undef) (.inRegion ops rest::k)) cs w):=by
 have:=step_op_skip (P:=P) (b:=dp fn #[] []) (a:=⟨tmps,fn.ds⟩) (k:=k) (cs:=cs) (w:=w) (ops:=ops) (i:=i) (rest:=rest) (by simp[ho,hw])
 rw[ho,show((some o:Option Oper).bind (·.dst))=o.dst from rfl,E3]at this
 exact this
end steps
def xp (φ:cA)(M:Nat->Prop)(tm:T Value)(tmps:Array Value):Prop:=∀t v,tm.get (bits t)=some v->M t\/∃v',tmps[t]? = some v'/\VR φ v v'
theorem xp.mono {ψ:cA}{M:Nat->Prop}(hle:φ.le ψ)(h:xp φ M tm tmps):xp ψ M tm tmps:=λt v q=>(h t v q).imp id λ⟨v',a,b⟩=>⟨v',a,b.mono hle⟩
theorem uf {M:Nat->Prop}(hG:∀g,g<P.globals.size->∃e:gF,φ[g]? = some (some e)/\e.r=g)(h:xp φ M tm tmps){l:List Operand}(hl:∀t,Operand.tmp t∈l->¬M t):m8 P φ tm (dG tmps) l:=by
 intro x hx v hv
 cases x with
 | tmp t=>
   rcases h t v hv with q | ⟨v',h1,h2⟩
   . exact absurd q (hl t hx)
   . have:dG tmps (.tmp t)=v':=by
      simp only[dG,Act.eval,Array.getD_eq_getD_getElem?,h1,Option.getD_some]
     rw[this]
     exact h2
 | const c=>
   have hv:(bif flat c then some c else none)=some v:=hv
   obtain⟨h1,h2⟩:=aR hv
   cases h2
   exact .flat _ h1
 | global g=>
   obtain⟨h1,h2⟩:=aR (show(bif Nat.blt g P.globals.size then some (Value.pointer (some ⟨g,0,none⟩))else none)=some v from hv)
   cases h2
   obtain⟨e,h3,h4⟩:=hG g (eD h1)
   have:dG tmps (.global g)= .pointer (some ⟨e.r,0,none⟩):=by rw[h4];rfl
   rw[this]
   exact .ptr h3
 | func f=>cases hv;exact .flat _ rfl
theorem np {M:Nat->Prop}(h:xp φ M tm tmps){o:Oper}(hl:∀p,o.guard=some p->∀d,iG ops p.1=some d->¬M d){b:Bool}
 (hw:bO tm ops o=some b):Region.wanted o (yielded ops tmps)=b:=by
 unfold bO at hw
 unfold Region.wanted
 split at hw
 . rename_i hg
   rw[hg]
   cases hw
   rfl
 . rename_i p hg
   obtain⟨j,want⟩:=p
   rw[hg]
   obtain⟨d,hd,hy⟩:=aH hw
   have hM:=hl (j,want) hg d hd
   have hd':(ops[j]?).bind (·.dst)=some d:=by
    unfold iG at hd
    cases hj:ops[j]? with
    | none=>rw[hj]at hd;cases hd
    | some q=>rw[hj]at hd;exact hd
   show(yielded ops tmps j == some want)=b
   unfold jZ at hy
   split at hy
   . rename_i x hx
     cases hy
     rcases h d _ hx with q | ⟨v',h1,h2⟩
     . exact absurd q hM
     . have:=h2.aG rfl
       subst this
       have e:yielded ops tmps j=some x:=by
        unfold yielded
        rw[hd']
        simp only[Option.bind_some,h1]
       rw[e]
       cases x<;>cases want<;>rfl
   . rename_i c hx
     cases hy
     rcases h d _ hx with q | ⟨v',h1,h2⟩
     . exact absurd q hM
     . obtain⟨c',rfl,_⟩:=h2.sR
       have e:yielded ops tmps j=none:=by
        unfold yielded
        rw[hd']
        simp only[Option.bind_some,h1]
       rw[e]
       rfl
   . cases hy
def cv (tm:T Value)(dst:Option Tmp)(v:Value):T Value:=match dst with
 | some d=>set tm (bits d) (some v)
 | none=>tm
theorem fp (tm:T Value)(dst:Option Tmp)(v:Value)(t:Nat):(cv tm dst v).get (bits t)=if dst=some t then some v else tm.get (bits t):=by
 cases dst with
 | none=>rfl
 | some d=>
   show(set tm (bits d) (some v)).get (bits t)=_
   rw[get_at]
   by_cases h:t=d
   . subst h;simp
   . rw[if_neg h,if_neg (by simp;exact λq=>h q.symm)]
theorem nq (tm:T Value)(dst:Option Tmp)(v:Value)(x:Operand)(h:∀d,dst=some d->x ≠ .tmp d):bz P (cv tm dst v) x=bz P tm x:=by
 cases x with
 | tmp t=>
   show(cv tm dst v).get (bits t)=tm.get (bits t)
   rw[fp,if_neg (λq=>h t q rfl)]
 | _=>rfl
theorem xq {tmps:Array Value}{dst:Option Tmp}{v:Value}{t:Nat}(h:∀d,dst=some d->d<tmps.size):
 (iM tmps dst v)[t]? = if dst=some t then some v else tmps[t]? := by
 cases dst with
 | none=>rfl
 | some d=>
   show(tmps.setIfInBounds d v)[t]? = _
   by_cases ht:d=t
   . subst ht
     rw[Array.getElem?_setIfInBounds_self_of_lt (h d rfl)]
     simp
   . rw[Array.getElem?_setIfInBounds_ne ht,if_neg (by simpa using ht)]
theorem xp.put {M M':Nat->Prop}(h:xp φ M tm tmps){dst:Option Tmp}{v v':Value}(hd:∀d,dst=some d->d<tmps.size)(hv:VR φ v v')(hM:∀t,M t->dst≠some t->M' t):
 xp φ M' (cv tm dst v) (iM tmps dst v'):=by
 intro t u hu
 rw[fp]at hu
 rw[xq hd]
 by_cases ht:dst=some t
 . rw[if_pos ht]at hu ⊢
   cases hu
   exact .inr ⟨v',rfl,hv⟩
 . rw[if_neg ht]at hu ⊢
   exact(h t u hu).imp (λq=>hM t q ht) id
def QQ (P:Program)(tm:T Value)(o:Op)(e:TypeId)(l:List Value)(mk:Nat->Value):Prop:=
 (o= .alloc e/\bS P e=some l/\mk=jD)\/
 (∃(t:TypeId) (len:Nat) (ps:Array (Nat×Operand)) (vs:List (Nat×Value)) (s:Nat) (z:List Value) (cells:Array Value),o= .buildSlice t len ps/\parts P tm ps.toList=some vs/\P.underlying t=some (.slice e)/\bh P e=some s/\bS P e=some z/\
  (Nat.ble (len*s) 16777216&&Nat.blt 0 (len*s)&&Nat.blt 0 z.length)=true/\Instr.fill (λi=>some (i*s,s)) (bA z (len*s)) vs=some cells/\l=cells.toList/\mk=λnx=> .slice (some ⟨nx,0,none⟩) len len)
theorem QR {o:Oper}{nx:Nat}{H':T OB}(hal:p_ o.op=true){v:Value}{nx':Nat}(h:ef P H nx tm o= .val v H' nx'):∃e l mk,QQ P tm o.op e l mk/\v=mk nx/\H'=set H (bits nx) (some (cS l e))/\nx'=nx+1:=by
 unfold ef at h
 split at h
 . rename_i e he
   unfold aq at h
   obtain⟨l,hz,h⟩:=ca h
   rw[eo]at h
   cases h
   exact⟨e,l,jD,.inl ⟨he,hz,rfl⟩,rfl,rfl,rfl⟩
 . rename_i he;rw[he]at hal;cases hal
 . rename_i he;rw[he]at hal;cases hal
 . rename_i t len ps he
   unfold ao at h
   obtain⟨vs,hvs,h⟩:=ca h
   obtain⟨e,s,hu,hs,h⟩:=ic h
   obtain⟨z,hz,h⟩:=ca h
   obtain⟨hc,h⟩:=cX h
   obtain⟨cells,hf,h⟩:=ca h
   rw[eo,ba]at h
   cases h
   exact⟨e,_,_,.inr ⟨t,len,ps,vs,s,z,cells,he,hvs,hu,hs,hz,hc,hf,rfl,rfl⟩,rfl,rfl,rfl⟩
 all_goals first
  | (rename_i he;rw[he]at hal;cases hal)
  | cases h
theorem Nk {o:Oper}{ρ:Operand->Value}{e:TypeId}{l:List Value}{mk:Nat->Value}(hE:m8 P φ tm ρ o.op.operands.toList)(h:QQ P tm o.op e l mk):
 ∃(l':List Value) (mk':Addr->Value),LR φ l l'/\(execOp ρ o).run P w= .ok (.value (mk' ⟨w.heap.size,0,none⟩)) (w.alloc (.cells l'.toArray e))/\∀(ψ:cA) (k:Nat) (en:gF),ψ[k]? = some (some en)->VR ψ (mk k) (mk' ⟨en.r,0,none⟩):=by
 rcases h with⟨ho,hz,rfl⟩ | ⟨t,len,ps,vs,s,z,cells,ho,hvs,hu,hs,hz,hc,hf,rfl,rfl⟩
 . obtain⟨i,z,hi',hz',hl,hfl⟩:=ga hz
   refine⟨l,λa=> .pointer (some a),LR.of_flat hfl,?_,fun ψ k en hk=> .ptr hk⟩
   have hrun:(execOp ρ o).run P w= .ok (.value (.pointer (some ⟨w.heap.size,0,none⟩))) (w.alloc (.cells z.cells e)):=by
    simp[execOp,ho,Instr.alloc,zeroValue,typeInfo,hi',hz',newVar,newRow]
   rw[hrun,<- hl]
 . simp only[Bool.and_eq_true]at hc
   have h1:=cL hc.1.1
   have h2:=eD hc.1.2
   obtain⟨i,z',hi,hz',hl,hfl⟩:=ga hz
   have hp:PR φ vs (ps.toList.map λp=>(p.1,ρ p.2)):=mc ps.toList vs (λp hp=>hE p.2 (by
    rw[ho]
    show p.2∈((ps.toList.map (·.2)).toArray).toList
    exact List.mem_map.2 ⟨p,hp,rfl⟩)) hvs
   obtain⟨cells',hf',hLR⟩:=oN (λi=>some (i*s,s)) hp _ (bA z (len*s)) cells (LR.of_flat (mg hfl _)) hf
   refine⟨cells'.toList,λa=> .slice (some a) len len,hLR,?_,fun ψ k en hk=> .slice hk (.inl ⟨?_,rfl⟩)⟩
   . have hzc:z.toArray=z'.cells:=by rw[<- hl]
     have hf'':Instr.fill (λi=>some (i*s,s)) (Array.map (λx=>z'.cells[x%z'.cells.size]!) (Array.range (len*s))) (ps.toList.map λp=>(p.1,ρ p.2))=some cells':=by
      rw[<- hzc];exact hf'
     have e24:(2:Nat)^24=16777216:=by decide
     have hne:¬(len*s>2^24):=by rw[e24];omega
     have hne0:¬(len*s=0):=by omega
     simp only[execOp,ho,Instr.buildSlice,Sem.run_bind,bm hu,Result.andThen_ok,b_ hs,if_neg hne,if_neg hne0,Sem.run_pure]
     have hzr:(zeroValue e).run P w= .ok z' w:=by simp[zeroValue,typeInfo,hi,hz']
     simp[hzr,hf'',newRow]
   . have:len<=len*s:=Nat.le_mul_of_pos_right len (Nat.pos_of_ne_zero (λq=>by rw[q]at h2;simp at h2))
     unfold eN
     omega
theorem s_ {tm tm':T Value}{o:Op}{e:TypeId}{l:List Value}{mk:Nat->Value}(hx:∀x∈o.operands.toList,bz P tm' x=bz P tm x)(h:QQ P tm o e l mk):QQ P tm' o e l mk:=by
 rcases h with h | ⟨t,len,ps,vs,s,z,cells,ho,hvs,h⟩
 . exact .inl h
 . refine .inr ⟨t,len,ps,vs,s,z,cells,ho,?_,h⟩
   rw[<- hvs]
   refine j7 _ λp hp=>hx p.2 ?_
   rw[ho]
   show p.2∈((ps.toList.map (·.2)).toArray).toList
   exact List.mem_map.2 ⟨p,hp,rfl⟩
def xr (P:Program)(φ:cA)(H:T OB)(tm:T Value)(ops:Array Oper)(κ:Nat->Nat)(lo hi:Nat)(p:Nat)(o:Oper):Prop:=
 (bO tm ops o=some false/\∀d,o.dst=some d->tm.get (bits d)=some undef)\/
 (bO tm ops o=some true/\yQ o.op=true/\∃u,(∀d,o.dst=some d->tm.get (bits d)=some u)/\(l5 o.op=false->rd P H tm o=some u))\/
 (bO tm ops o=some true/\p_ o.op=true/\∃e l mk,QQ P tm o.op e l mk/\φ[κ p]? = some none/\hp H (κ p)=some (cS l e)/\lo<=κ p/\κ p<hi/\
  ∀d,o.dst=some d->tm.get (bits d)=some (mk (κ p)))
def Mask (ops:Array Oper)(done π:List Nat)(t:Nat):Prop:=∃p,p∈π/\p∈done/\iG ops p=some t
structure eY (P:Program)(φ:cA)(H:T OB)(tm:T Value)(tmps:Array Value)(ops:Array Oper)(done iX:List Nat)(pl:List (Nat×List Nat))(π:List Nat)(κ:Nat->Nat)(lo hi:Nat):Prop where
 sa:sk ops=true
 ac:acyclic ops=true
 D6:f_ ops (je ops) done iX pl=true
 ID:qF ops π
 todo:∀i,i<ops.size->i∉done->i∈π
 closed:∀i,i∉π->∀o,ops[i]? = some o->∀e∈o.after,Region.binds .any e=true->e.on∉π
 ready:∀i,i∈done->∀o,ops[i]? = some o->eh ops done o=true
 tr:xp φ (Mask ops done π) tm tmps
 IW:∀i o d,ops[i]? = some o->o.dst=some d->i∈done->d<tmps.size
 prom:∀p,p∈π->p∈done->∀o,ops[p]? = some o->xr P φ H tm ops κ lo hi p o
 iX:∀p,p∈π->p∈done->∀o,ops[p]? = some o->l5 o.op=true->p∈iX
 inj:∀p q,p∈π->p∈done->q∈π->q∈done->∀o o',ops[p]? = some o->ops[q]? = some o'->p_ o.op=true->p_ o'.op=true->
  bO tm ops o=some true->bO tm ops o'=some true->κ p=κ q->p=q
 own:∀p,p∈π->p∈done->p∉jF ops
def j8 (P:Program)(H:T OB)(tm:T Value)(ops:Array Oper)(done π:List Nat):Prop:=
 ∀p,p∈π->p∈done->∀o,ops[p]? = some o->l5 o.op=true->bO tm ops o=some true->∃u,rd P H tm o=some u/\∀d,o.dst=some d->tm.get (bits d)=some u
theorem gU {o:Oper}{j:Nat}:direct o j=true↔∃e∈o.after,Region.binds .any e=true/\e.on=j:=by
 unfold direct
 rw[List.any_eq_true]
 constructor
 . rintro⟨e,he,h⟩
   simp only[Bool.and_eq_true,beq_iff_eq]at h
   exact⟨e,by simpa using he,h.1,h.2⟩
 . rintro⟨e,he,h1,h2⟩
   exact⟨e,by simpa using he,by simp[h1,h2]⟩
theorem xu (hs:sk ops=true){i j:Nat}{o q:Oper}{d:Tmp}(hi:ops[i]? = some o)(hj:ops[j]? = some q)(hd:q.dst=some d)(hl:d∈o.looksAt ops):direct o j=true\/direct q i=true:=by
 have h1:=List.all_eq_true.1 hs i (List.mem_range.2 (Array.getElem?_eq_some_iff.1 hi).1)
 have h2:=List.all_eq_true.1 h1 j (List.mem_range.2 (Array.getElem?_eq_some_iff.1 hj).1)
 simp only[hi,hj,hd,Bool.and_eq_true,Bool.or_eq_true,Bool.not_eq_true']at h2
 rcases h2.1 with(h3 | h3) | h3
 . have h4:(o.looksAt ops).contains d=true:=by simpa using hl
   rw[h3]at h4
   cases h4
 . exact .inl h3
 . exact .inr h3
theorem xw {i j:Nat}(hn:j∉jF ops){o q:Oper}{d:Tmp}(hi:ops[i]? = some o)(hj:ops[j]? = some q)(hd:q.dst=some d)(hl:d∈o.looksAt ops):direct o j=true:=by
 cases h:direct o j with
 | true=>rfl
 | false=>
   refine absurd ?_ hn
   unfold jF
   rw[List.mem_filter]
   refine⟨List.mem_range.2 (Array.getElem?_eq_some_iff.1 hj).1,?_⟩
   simp only[hj,hd]
   rw[List.any_eq_true]
   refine⟨i,List.mem_range.2 (Array.getElem?_eq_some_iff.1 hi).1,?_⟩
   simp only[hi,h]
   have h4:(o.looksAt ops).contains d=true:=by simpa using hl
   rw[h4];rfl
theorem Nl (hs:sk ops=true){i j:Nat}{o q:Oper}{d:Tmp}(hi:ops[i]? = some o)(hj:ops[j]? = some q)(hd:q.dst=some d)(hne:i≠j):o.dst≠some d:=by
 have h1:=List.all_eq_true.1 hs i (List.mem_range.2 (Array.getElem?_eq_some_iff.1 hi).1)
 have h2:=List.all_eq_true.1 h1 j (List.mem_range.2 (Array.getElem?_eq_some_iff.1 hj).1)
 simp only[hi,hj,hd,Bool.and_eq_true,Bool.or_eq_true,Bool.not_eq_true',beq_iff_eq,bne_iff_ne]at h2
 exact h2.2.resolve_left hne
theorem j9 {o:Oper}{t:Nat}(h:Operand.tmp t∈o.op.operands.toList):t∈o.looksAt ops:=by
 unfold Oper.looksAt
 exact List.mem_append_left _ (List.mem_filterMap.2 ⟨.tmp t,h,rfl⟩)
theorem j_ {o:Oper}{p:Nat×Bool}{d:Tmp}(hg:o.guard=some p)(hd:iG ops p.1=some d):d∈o.looksAt ops:=by
 unfold Oper.looksAt
 refine List.mem_append_right _ ?_
 obtain⟨j,b⟩:=p
 rw[hg]
 have hd':(ops[j]?).bind (·.dst)=some d:=by
  unfold iG at hd
  cases hj:ops[j]? with
  | none=>rw[hj]at hd;cases hd
  | some q=>rw[hj]at hd;exact hd
 simp only[hd',Option.toList_some,List.mem_singleton]
theorem qI {ops:Array Oper}{p t:Nat}(h:iG ops p=some t):∃q,ops[p]? = some q/\q.dst=some t:=by
 unfold iG at h
 cases hj:ops[p]? with
 | none=>rw[hj]at h;cases h
 | some q=>rw[hj]at h;exact⟨q,rfl,h⟩
theorem kK {q:Nat}{π:List Nat}(hlin:qF ops (q::π)){done:List Nat}(hown:∀p,p∈q::π->p∈done->p∉jF ops){o:Oper}(ho:ops[q]? = some o){t:Nat}(ht:t∈o.looksAt ops):¬Mask ops done (q::π) t:=by
 rintro⟨p,hp,hpd,hd⟩
 obtain⟨oq,h1,h2⟩:=qI hd
 have h3:=gU.1 (xw (hown p hp hpd) ho h1 h2 ht)
 obtain⟨e,he,hb,hon⟩:=h3
 obtain⟨⟨o',ho',hdeps⟩,_⟩:=hlin
 rw[ho]at ho'
 cases ho'
 exact hdeps e he hb (by rw[hon];exact hp)
section
variable {done iX:List Nat}{pl:List (Nat×List Nat)}{π:List Nat}{κ:Nat->Nat}{lo hi:Nat}{fn:FB}{k:List Item}{cs:List Frame}
theorem AG {op:Op}(h:p_ op=true):yQ op=false:=by
 cases op<;>first | rfl | cases h
theorem IX {op:Op}(h:p_ op=true):l5 op=false:=by
 cases op<;>first | rfl | cases h
theorem E5 {j:Nat}(h:j∉je ops):j∉jF ops:=λq=>h (by
 unfold je
 split
 . exact List.mem_append_left _ q
 . exact q)
theorem D7 (hH:HR P W φ (hp H) w){q:Nat}(hD:eY P φ H tm tmps ops done iX pl (q::π) κ lo hi)(hL:j8 P H tm ops done (q::π))(hq:q∈done):
 ∃φ' tmps' w',step P (lone (dp fn tmps (.inRegion ops (q::π)::k)) cs w)= .next (lone (dp fn tmps' (.inRegion ops π::k)) cs w')/\
  φ.le φ'/\HR P W φ' (hp H) w'/\φ'.length=φ.length/\(∀j,j<lo->φ[j]? = some none->φ'[j]? = some none)/\
  eY P φ' H tm tmps' ops done iX pl π κ lo hi/\j8 P H tm ops done π/\tmps'.size=tmps.size:=by
 obtain⟨⟨o,ho,hdeps⟩,hnq,hlin⟩:=hD.ID
 have hop:m8 P φ tm (dG tmps) o.op.operands.toList:=uf hH.gl hD.tr λt ht=>kK hD.ID hD.own ho (j9 ht)
 have hgd:∀b,bO tm ops o=some b->Region.wanted o (yielded ops tmps)=b:=λb hb=>np hD.tr (λp hp d hd=>kK hD.ID hD.own ho (j_ hp hd)) hb
 have hd:∀d,o.dst=some d->d<tmps.size:=λd h=>hD.IW q o d ho h hq
 have rest:∀(ψ:cA) (u u':Value),φ.le ψ->(∀d,o.dst=some d->tm.get (bits d)=some u)->VR ψ u u'->
  (∀p,p∈π->p∈done->∀o',ops[p]? = some o'->xr P ψ H tm ops κ lo hi p o')->eY P ψ H tm (iM tmps o.dst u') ops done iX pl π κ lo hi:=by
  intro ψ u u' hle hu hv hp
  refine⟨hD.sa,hD.ac,hD.D6,hlin,λi hi hn=> ?_,λi hi x hx e he hb=> ?_,hD.ready,λt v hv'=> ?_,λi x d hx hxd hi=>by rw[d_];exact hD.IW i x d hx hxd hi,hp,
   λp hp=>hD.iX p (List.mem_cons_of_mem _ hp),λp p' hp hpd hp' hpd'=>hD.inj p p' (List.mem_cons_of_mem _ hp) hpd (List.mem_cons_of_mem _ hp') hpd',λp hp hpd=>hD.own p (List.mem_cons_of_mem _ hp) hpd⟩
  . rcases List.mem_cons.1 (hD.todo i hi hn)with h | h
    . subst h;exact absurd hq hn
    . exact h
  . by_cases hiq:i=q
    . subst hiq
      rw[ho]at hx
      cases hx
      exact λh=>hdeps e he hb (List.mem_cons_of_mem _ h)
    . exact λh=>hD.closed i (λh=>(List.mem_cons.1 h).elim hiq hi) x hx e he hb (List.mem_cons_of_mem _ h)
  . rw[xq hd]
    by_cases ht:o.dst=some t
    . rw[if_pos ht]
      rw[hu t ht]at hv'
      cases hv'
      exact .inr ⟨u',rfl,hv⟩
    . rw[if_neg ht]
      rcases hD.tr t v hv' with⟨p,hp,hpd,hpt⟩ | ⟨v',a,b⟩
      . rcases List.mem_cons.1 hp with h | h
        . subst h
          obtain⟨x,hx,hxt⟩:=qI hpt
          rw[ho]at hx
          cases hx
          exact absurd hxt ht
        . exact .inl ⟨p,h,hpd,hpt⟩
      . exact .inr ⟨v',a,b.mono hle⟩
 have hL':j8 P H tm ops done π:=λp hp=>hL p (List.mem_cons_of_mem _ hp)
 have hprom:∀p,p∈π->p∈done->∀o',ops[p]? = some o'->xr P φ H tm ops κ lo hi p o':=λp hp=>hD.prom p (List.mem_cons_of_mem _ hp)
 rcases hD.prom q (by simp) hq o ho with⟨hw,hu⟩ | ⟨hw,hrd,u,hu,hnl⟩ | ⟨hw,hal,e,l,mk,hz,hk,hkb,j5,hhi,hu⟩
 . exact⟨φ,_,w,qH ho (hgd _ hw),φ.le_refl,hH,rfl,λ_ _ h=>h,rest φ undef undef φ.le_refl hu (.flat _ rfl) hprom,hL',d_ _ _ _⟩
 . have hr:∃u,rd P H tm o=some u/\∀d,o.dst=some d->tm.get (bits d)=some u:=by
    cases hl:l5 o.op with
    | false=>exact⟨u,hnl hl,hu⟩
    | true=>exact hL q (by simp) hq o ho hl hw
   obtain⟨u,hr,hu⟩:=hr
   obtain⟨u',hv,hrun⟩:=qu hH hop hr
   exact⟨φ,_,w,eF ho (hgd _ hw) hrun,φ.le_refl,hH,rfl,λ_ _ h=>h,rest φ u u' φ.le_refl hu hv hprom,hL',d_ _ _ _⟩
 . obtain⟨l',mk',hLR,hrun,hmk⟩:=Nk hop hz
   have hob:=uc (P:=P) (W:=W) (w:=w) hLR e e #[] (es:=(bh P e).getD 0) (λy hy=>by rw[hy];rfl) hH.below
   rw[Array.append_empty]at hob
   have hb:=hH.bind hk hkb (.cells l'.toArray e) hob
   refine⟨_,_,_,eF ho (hgd _ hw) hrun,nk hk _,hb,by simp,λj hj h=> ?_,rest _ (mk (κ q)) _ (nk hk _) hu (hmk _ _ _ (IU hk _)) ?_,hL',d_ _ _ _⟩
   . rw[List.getElem?_set_ne (by omega)];exact h
   . intro p hp hpd o' ho'
     rcases hprom p hp hpd o' ho' with h | h | ⟨hw',hal',e',l',mk2,hz'',hk',hkb',hlo',hhi',hu'⟩
     . exact .inl h
     . exact .inr (.inl h)
     . refine .inr (.inr ⟨hw',hal',e',l',mk2,hz'',?_,hkb',hlo',hhi',hu'⟩)
       rw[List.getElem?_set_ne]
       . exact hk'
       . intro heq
         have:=hD.inj q p (by simp) hq (List.mem_cons_of_mem _ hp) hpd o o' ho ho' hal hal' hw hw' heq
         subst this
         exact hnq hp
theorem qJ:∀(π:List Nat) (φ:cA) (tmps:Array Value) (w:World),HR P W φ (hp H) w->eY P φ H tm tmps ops done iX pl π κ lo hi->j8 P H tm ops done π->
 ∃φ' tmps' w' π',Steps P (lone (dp fn tmps (.inRegion ops π::k)) cs w) (lone (dp fn tmps' (.inRegion ops π'::k)) cs w')/\
  φ.le φ'/\HR P W φ' (hp H) w'/\φ'.length=φ.length/\(∀j,j<lo->φ[j]? = some none->φ'[j]? = some none)/\
  eY P φ' H tm tmps' ops done iX pl π' κ lo hi/\j8 P H tm ops done π'/\tmps'.size=tmps.size/\(∀q l,π'=q::l->q∉done)
 | [],φ,tmps,w,hH,hD,hL=>⟨φ,tmps,w,[],.refl _ _,φ.le_refl,hH,rfl,λ_ _ h=>h,hD,hL,rfl,λq l h=>by cases h⟩
 | q::π,φ,tmps,w,hH,hD,hL=>by
   by_cases hq:q∈done
   . obtain⟨φ1,tmps1,w1,hs,hle,hH1,hl1,hk1,hD1,hL1,hz1⟩:=D7 (fn:=fn) (k:=k) (cs:=cs) hH hD hL hq
     obtain⟨φ2,tmps2,w2,π2,hs2,hle2,hH2,hl2,hk2,hD2,hL2,hz2,hn2⟩:=qJ π φ1 tmps1 w1 hH1 hD1 hL1
     exact⟨φ2,tmps2,w2,π2,.head hs hs2,cA.le_trans hle hle2,hH2,hl2.trans hl1,λj hj h=>hk2 j hj (hk1 j hj h),hD2,hL2,hz2.trans hz1,hn2⟩
   . exact⟨φ,tmps,w,q::π,.refl _ _,φ.le_refl,hH,rfl,λ_ _ h=>h,hD,hL,rfl,λq' l h=>by cases h;exact hq⟩
end
end
section
variable {P:Program}{W w:World}{φ φ':cA}{H H':T OB}{tm:T Value}{tmps:Array Value}{ops:Array Oper}
variable {done iX:List Nat}{pl:List (Nat×List Nat)}{π:List Nat}{κ:Nat->Nat}{lo hi:Nat}
theorem zh {β:Type}{F:Option OB->Option β}(hF:F none=none){b:Nat}{u:β}(hext:∀k ob,hp H k=some ob->hp H' k=some ob)(h:F (H.get (bits b))=some u):H'.get (bits b)=H.get (bits b):=by
 cases hg:H.get (bits b)with
 | none=>rw[hg,hF]at h;cases h
 | some ob=>exact hext b ob hg
theorem xx {F:Option OB->Bool}(hF:F none=false){b:Nat}(hext:∀k ob,hp H k=some ob->hp H' k=some ob)(h:F (H.get (bits b))=true):H'.get (bits b)=H.get (bits b):=by
 cases hg:H.get (bits b)with
 | none=>rw[hg,hF]at h;cases h
 | some ob=>exact hext b ob hg
theorem nW {b:Nat}(hext:∀k ob,hp H k=some ob->hp H' k=some ob)(h:ja H b=true):ja H' b=true:=by
 unfold ja at h ⊢
 rw[xx (F:=λx=>dJ x (λ_ _ _=>true) false) rfl hext h]
 exact h
theorem Nm {o:Oper}{u:Value}(hext:∀k ob,hp H k=some ob->hp H' k=some ob)(h:rd P H tm o=some u):rd P H' tm o=some u:=by
 cases hl:l5 o.op with
 | false=>rw[AF hl];exact h
 | true=>
   unfold rd at h ⊢
   cases ho:o.op with
   | load t x=>
     simp only[ho]at h ⊢
     unfold ae at h ⊢
     split at h
     . rename_i b off _
       unfold jC at h ⊢
       rw[zh (F:=λx=>sf x (λn tr=>jV P n tr t off) none) rfl hext h]
       exact h
     . exact h
     . cases h
   | slice t x lo hi mx=>
     simp only[ho]at h ⊢
     unfold de at h ⊢
     split at h
     . rename_i b off len cap hx
       obtain⟨hm,h⟩:=aR h
       rw[hm]
       obtain⟨s,hs,h3⟩:=aH h
       obtain⟨l,hl,h3⟩:=aH h3
       obtain⟨hh,hhi,h3⟩:=aH h3
       simp only[cond_true,hs,aJ,hl,hhi]
       cases hc:Nat.beq cap eN with
       | false=>rw[hc]at h3;exact h3
       | true=>
         rw[hc]at h3
         have h3:m9 P H b off len s l hh=some u:=h3
         show m9 P H' b off len s l hh=some u
         unfold m9 at h3 ⊢
         obtain⟨h4,h5⟩:=aR h3
         rw[h4]
         cases h6:Nat.beq l 0 with
         | true=>rw[h6]at h5;exact h5
         | false=>
           rw[h6]at h5
           obtain⟨h7,h8⟩:=aR (show(bif Nat.blt l len&&sh P H b s then bF (Nat.sub hh l) (λn=>bF (Nat.add off (Nat.mul l s)) λo=>some (Value.slice (some ⟨b,o,none⟩) n eN))else none)=some u from h5)
           simp only[Bool.and_eq_true]at h7
           have h9:sh P H' b s=true:=by
            have h9:=h7.2
            unfold sh at h9 ⊢
            rw[xx (F:=λx=>dJ x (λ_ _ el=>aa (bh P el) (λz=>Nat.beq z s) false) false) rfl hext h9]
            exact h9
           show(bif Nat.blt l len&&sh P H' b s then bF (Nat.sub hh l) (λn=>bF (Nat.add off (Nat.mul l s)) λo=>some (Value.slice (some ⟨b,o,none⟩) n eN))else none)=some u
           rw[h7.1,h9]
           exact h8
     . exact h
     . exact h
     . cases h
   | lookup t m k ok=>
     simp only[ho]at h ⊢
     have h:fG P H t (bz P tm m) (bz P tm k) ok=some u:=h
     show fG P H' t (bz P tm m) (bz P tm k) ok=some u
     have he:DJ H' (bz P tm m)=DJ H (bz P tm m):=by
      unfold fG at h
      obtain⟨kt,et,d,_,_,_,h⟩:=sV h
      obtain⟨es,hes,_⟩:=aH h
      unfold DJ at hes ⊢
      split at hes
      . rfl
      . rename_i b
        rw[zh (F:=λx=>match x with | some (.map es _)=>some es | _=>none) rfl hext hes]
      . cases hes
     unfold fG at h ⊢
     rw[he]
     exact h
   | convert s d x=>
     simp only[ho]at h ⊢
     unfold cC at h ⊢
     split at h
     . rename_i b off n cp hx
       obtain⟨h1,h2⟩:=aR h
       rw[h1]
       show sf (H'.get (bits b)) _ none=some u
       rw[zh (F:=λx=>sf x (λm tr=>bif Nat.ble (off+n) m then aa (oE tr n off) (λl=>aa (strOf l) (λr=>some (Value.string ⟨⟨r⟩⟩)) none) none else none) none) rfl hext h2]
       exact h2
     . exact h
     . cases h
   | binOp op t x y yt=>
     simp only[ho]at h ⊢
     unfold al at h ⊢
     obtain⟨a,ha,h⟩:=aH h
     obtain⟨b,hb,h⟩:=aH h
     rw[ha,hb]
     simp only[aJ]
     have two:∀a b,jX P H op t (si x||si y) a b=some u->jX P H' op t (si x||si y) a b=some u:=λa b h=>by
      unfold jX at h ⊢
      cases hf:flat a&&flat b with
      | true=>rw[hf]at h;exact h
      | false=>
        rw[hf]at h
        have h:pZ P H op t a b=some u:=h
        show pZ P H' op t a b=some u
        unfold pZ at h ⊢
        split at h
        . split at h
          . obtain⟨hc,h⟩:=aR h
            simp only[Bool.and_eq_true]at hc
            rw[nW hext hc.1,nW hext hc.2]
            exact h
          . cases h
        . exact h
     unfold yP at h ⊢
     split at h
     . unfold Aq at h ⊢
       split at h
       . exact h
       . exact two _ _ h
     . exact two _ _ h
   | _=>rw[ho]at hl;cases hl
theorem ij {an:List Nat}{i:Nat}{chk:List Nat}{rest:List (Nat×List Nat)}(h:f_ ops an done iX ((i,chk)::rest)=true):
 ∃o,ops[i]? = some o/\i∉done/\eh ops done o=true/\
  (j0 an i o=true->f_ ops an (i::done) (if l5 o.op=true then i::iX else iX) rest=true)/\
  (j0 an i o=false->(yQ o.op=true->chk=[])/\(∀j∈rest,∀q,ops[j.1]? = some q->eh ops done q=false)/\(∀p∈iX,p∈chk\/p∈ED ops i)/\f_ ops an (i::done) chk rest=true):=by
 unfold f_ at h
 cases ho:ops[i]? with
 | none=>simp only[ho]at h;cases h
 | some o=>
   simp only[ho,Bool.and_eq_true,Bool.not_eq_true']at h
   obtain⟨⟨h1,h2⟩,h3⟩:=h
   refine⟨o,rfl,λq=> ?_,h2,λhc=> ?_,λhc=> ?_⟩
   . have:done.contains i=true:=by simpa using q
     rw[h1]at this
     cases this
   . rw[if_pos hc]at h3;exact h3
   . rw[if_neg (by rw[hc];decide)]at h3
     simp only[Bool.and_eq_true]at h3
     refine⟨λhr=>by simpa[hr]using h3.1.1.1,λj hj q hq=> ?_,λp hp=> ?_,h3.2⟩
     . have:=List.all_eq_true.1 h3.1.1.2 j hj
       rw[hq]at this
       simpa using this
     . have:=List.all_eq_true.1 h3.1.2 p hp
       simpa using this
theorem lI {an:List Nat}:∀(pl:List (Nat×List Nat)) (done iX:List Nat),f_ ops an done iX pl=true->∀i,i<ops.size->i∈done\/∃c,(i,c)∈pl
 | [],done,iX,h,i,hi=>by
   unfold f_ at h
   have:=List.all_eq_true.1 h i (List.mem_range.2 hi)
   exact .inl (by simpa using this)
 | (j,chk)::rest,done,iX,h,i,hi=>by
   obtain⟨o,_,_,_,h1,h2⟩:=ij h
   have key:∀lds',f_ ops an (j::done) lds' rest=true->i∈done\/∃c,(i,c)∈(j,chk)::rest:=λlds' hh=>by
    rcases lI rest (j::done) lds' hh i hi with h | ⟨c,h⟩
    . rcases List.mem_cons.1 h with h | h
      . subst h;exact .inr ⟨chk,by simp⟩
      . exact .inl h
    . exact .inr ⟨c,List.mem_cons_of_mem _ h⟩
   cases hc:j0 an j o with
   | true=>exact key _ (h1 hc)
   | false=>exact key _ (h2 hc).2.2.2
theorem dw {o:Oper}:eh ops done o=true↔∀e∈o.after,Region.binds .any e=true->e.on∈done:=by
 unfold eh
 rw[List.all_eq_true]
 constructor
 . intro h e he hb
   have:=h e (by simpa using he)
   simpa[hb]using this
 . intro h e he
   cases hb:Region.binds .any e with
   | false=>rfl
   | true=>simpa using h e (by simpa using he) hb
theorem qK {i p:Nat}(hna:i∉jF ops){o op:Oper}(ho:ops[i]? = some o)(hp:ops[p]? = some op)(hr:eh ops done op=true)(hi:i∉done){d:Tmp}(hd:o.dst=some d):d∉op.looksAt ops:=λhl=>by
 obtain⟨e,he,hb,hon⟩:=gU.1 (xw hna hp ho hd hl)
 exact hi (hon ▸ dw.1 hr e he hb)
theorem xy (hs:sk ops=true){i p:Nat}{o op:Oper}(ho:ops[i]? = some o)(hp:ops[p]? = some op)(hr:eh ops done op=true)(hi:i∉done)(hdeps:∀e∈o.after,Region.binds .any e=true->e.on≠p){d:Tmp}(hd:o.dst=some d):d∉op.looksAt ops:=λhl=>by
 rcases xu hs hp ho hd hl with h | h
 . obtain⟨e,he,hb,hon⟩:=gU.1 h
   exact hi (hon ▸ dw.1 hr e he hb)
 . obtain⟨e,he,hb,hon⟩:=gU.1 h
   exact hdeps e he hb hon
theorem ka {i p:Nat}{o op:Oper}{u:Value}(hl:∀d,o.dst=some d->d∉op.looksAt ops):bO (cv tm o.dst u) ops op=bO tm ops op:=
 ss λg hg d hd=>by
  rw[fp,if_neg]
  exact λq=>hl d q (j_ hg hd)
theorem nr {o op:Oper}{u:Value}(hl:∀d,o.dst=some d->d∉op.looksAt ops):rd P H (cv tm o.dst u) op=rd P H tm op:=
 E2 λx hx=>nq tm o.dst u x λd hd q=>by
  subst q
  exact hl d hd (j9 hx)
theorem qL {i p:Nat}{o op:Oper}{u:Value}(hs:sk ops=true)(ho:ops[i]? = some o)(hp:ops[p]? = some op)(hne:i≠p){d:Tmp}(hd:op.dst=some d):
 (cv tm o.dst u).get (bits d)=tm.get (bits d):=by
 rw[fp,if_neg (Nl hs ho hp hd hne)]
theorem xr.next {i p:Nat}{o op:Oper}{u:Value}{κ':Nat->Nat}{hi':Nat}(hs:sk ops=true)(ho:ops[i]? = some o)(hp':ops[p]? = some op)(hne:i≠p)
 (hl:∀d,o.dst=some d->d∉op.looksAt ops) (hk:∀k,k<hi->φ[k]? = some none->φ'[k]? = some none/\hp H' k=hp H k) (hκ:κ' p=κ p) (hhi:hi<=hi')
 (h:xr P φ H tm ops κ lo hi p op):xr P φ' H' (cv tm o.dst u) ops κ' lo hi' p op:=by
 have e1:bO (cv tm o.dst u) ops op=bO tm ops op:=ka (i:=i) (p:=p) hl
 have e2:∀d,op.dst=some d->(cv tm o.dst u).get (bits d)=tm.get (bits d):=λd hd=>qL hs ho hp' hne hd
 rcases h with⟨h1,h2⟩ | ⟨h1,h2,v,h3,h4⟩ | ⟨h1,hal,e,l,mk,h3,h4,h5,h6,h7,h8⟩
 . exact .inl ⟨e1.trans h1,λd hd=>(e2 d hd).trans (h2 d hd)⟩
 . exact .inr (.inl ⟨e1.trans h1,h2,v,λd hd=>(e2 d hd).trans (h3 d hd),λq=>by rw[nr hl,AF q];exact h4 q⟩)
 . refine .inr (.inr ⟨e1.trans h1,hal,e,l,mk,s_ (λx hx=>nq tm o.dst u x λd hd q=>by
    subst q
    exact hl d hd (j9 hx)) h3,?_,?_,?_,?_,λd hd=> ?_⟩)
   . rw[hκ];exact(hk _ h7 h4).1
   . rw[hκ];exact(hk _ h7 h4).2.trans h5
   . rw[hκ];exact h6
   . rw[hκ];omega
   . rw[hκ];exact(e2 d hd).trans (h8 d hd)
theorem ug (hac:acyclic ops=true){i:Nat}{o:Oper}(ho:ops[i]? = some o):direct o i=false:=by
 cases h:direct o i with
 | false=>rfl
 | true=>
   obtain⟨e,he,hb,hon⟩:=gU.1 h
   have h1:=List.all_eq_true.1 hac i (List.mem_range.2 (Array.getElem?_eq_some_iff.1 ho).1)
   rw[ho]at h1
   have h2:=List.all_eq_true.1 h1 e (by simpa using he)
   simp only[hb,Bool.not_true,Bool.false_or]at h2
   have:=eD h2
   omega
theorem E6 (hs:sk ops=true)(hac:acyclic ops=true){i:Nat}{o:Oper}(ho:ops[i]? = some o){d:Tmp}(hd:o.dst=some d):d∉o.looksAt ops:=λhl=>by
 have:=(xu hs ho ho hd hl).elim id id
 rw[ug hac ho]at this
 cases this
theorem eY.take {i:Nat}{o:Oper}{chk:List Nat}{rest:List (Nat×List Nat)}(hD:eY P φ H tm tmps ops done iX ((i,chk)::rest) π κ lo hi)(ho:ops[i]? = some o)
 (hna:i∉jF ops) (hni:i∉done) (hrdy:eh ops done o=true) {lds':List Nat} (hplan:f_ ops (je ops) (i::done) lds' rest=true) (hsub:∀p∈iX,p∈lds') (hself:l5 o.op=true->i∈lds')
 {κ':Nat->Nat} {hi':Nat} (hle:φ.le φ') (hk:∀k,k<hi->φ[k]? = some none->φ'[k]? = some none/\hp H' k=hp H k) (hκ:∀p,p≠i->κ' p=κ p) (hhi:hi<=hi') {u:Value}
 (hdst:∀d,o.dst=some d->d<tmps.size) (hprom:xr P φ' H' (cv tm o.dst u) ops κ' lo hi' i o) (hfresh:p_ o.op=true->hi<=κ' i):
 eY P φ' H' (cv tm o.dst u) tmps ops (i::done) lds' rest π κ' lo hi':=by
 have hisz:i<ops.size:=(Array.getElem?_eq_some_iff.1 ho).1
 have hiπ:i∈π:=hD.todo i hisz hni
 have nl:∀p,p∈done->∀op,ops[p]? = some op->∀d,o.dst=some d->d∉op.looksAt ops:=λp hpd op hp d hd=>qK hna ho hp (hD.ready p hpd op hp) hni hd
 have hlt:∀q,q∈π->q∈done->∀o',ops[q]? = some o'->p_ o'.op=true->bO tm ops o'=some true->κ q<hi:=λq hq hqd o' ho' hal hw=>by
  rcases hD.prom q hq hqd o' ho' with⟨h1,_⟩ | ⟨_,h2,_⟩ | ⟨_,_,_,_,_,_,_,_,_,h7,_⟩
  . rw[hw]at h1;cases h1
  . rw[AG hal]at h2;cases h2
  . exact h7
 refine⟨hD.sa,hD.ac,hplan,hD.ID,λj hj hn=>hD.todo j hj (λq=>hn (List.mem_cons_of_mem _ q)),hD.closed,λj hj x hx=> ?_,λt v hv=> ?_,λj x d hx hxd hj=> ?_,λp hp hpd op hop=> ?_,λp hp hpd op hop hl=> ?_,λp q hp hpd hq hqd x y hx hy hxa hya hxw hyw heq=> ?_,λp hp hpd=>(List.mem_cons.1 hpd).elim (λh=>h ▸ hna) (hD.own p hp)⟩
 . rw[dw]
   intro e he hb
   rcases List.mem_cons.1 hj with h | h
   . subst h
     rw[ho]at hx
     cases hx
     exact List.mem_cons_of_mem _ (dw.1 hrdy e he hb)
   . exact List.mem_cons_of_mem _ (dw.1 (hD.ready j h x hx) e he hb)
 . rw[fp]at hv
   by_cases ht:o.dst=some t
   . refine .inl ⟨i,hiπ,by simp,?_⟩
     unfold iG
     rw[ho]
     exact ht
   . rw[if_neg ht]at hv
     rcases hD.tr t v hv with⟨p,h1,h2,h3⟩ | ⟨v',a,b⟩
     . exact .inl ⟨p,h1,List.mem_cons_of_mem _ h2,h3⟩
     . exact .inr ⟨v',a,b.mono hle⟩
 . rcases List.mem_cons.1 hj with h | h
   . subst h;rw[ho]at hx;cases hx;exact hdst d hxd
   . exact hD.IW j x d hx hxd h
 . rcases List.mem_cons.1 hpd with h | h
   . subst h;rw[ho]at hop;cases hop;exact hprom
   . have hne:i≠p:=λq=>hni (q ▸ h)
     exact(hD.prom p hp h op hop).next hD.sa ho hop hne (nl p h op hop) hk (hκ p (Ne.symm hne)) hhi
 . rcases List.mem_cons.1 hpd with h | h
   . subst h;rw[ho]at hop;cases hop;exact hself hl
   . exact hsub p (hD.iX p hp h op hop hl)
 . have wst:∀p,p∈done->∀x,ops[p]? = some x->bO (cv tm o.dst u) ops x=some true->bO tm ops x=some true:=λp hpd x hx h=>by
    rw[ka (i:=i) (p:=p) (nl p hpd x hx)]at h;exact h
   rcases List.mem_cons.1 hpd with h | h<;>rcases List.mem_cons.1 hqd with h' | h'
   . rw[h,h']
   . have hne:q≠i:=λz=>hni (z ▸ h')
     rw[hκ q hne,h]at heq
     rw[h]at hx
     rw[ho]at hx
     cases hx
     have:=hfresh hxa
     have:=hlt q hq h' y hy hya (wst q h' y hy hyw)
     omega
   . have hne:p≠i:=λz=>hni (z ▸ h)
     rw[hκ p hne,h']at heq
     rw[h']at hy
     rw[ho]at hy
     cases hy
     have:=hfresh hya
     have:=hlt p hp h x hx hxa (wst p h x hx hxw)
     omega
   . have hne:p≠i:=λz=>hni (z ▸ h)
     have hne':q≠i:=λz=>hni (z ▸ h')
     rw[hκ p hne,hκ q hne']at heq
     exact hD.inj p q hp h hq h' x y hx hy hxa hya (wst p h x hx hxw) (wst q h' y hy hyw) heq
theorem j8.take {i:Nat}{o:Oper}(hs:sk ops=true)(hready:∀i,i∈done->∀o,ops[i]? = some o->eh ops done o=true)(ho:ops[i]? = some o)(hna:i∉jF ops)(hni:i∉done)(hL:j8 P H tm ops done π)
 (hext:∀k ob,hp H k=some ob->hp H' k=some ob) {u:Value} (hself:l5 o.op=true->bO (cv tm o.dst u) ops o=some true->rd P H' (cv tm o.dst u) o=some u):
 j8 P H' (cv tm o.dst u) ops (i::done) π:=by
 intro p hp hpd op hop hl hw
 rcases List.mem_cons.1 hpd with h | h
 . subst h
   rw[ho]at hop
   cases hop
   refine⟨u,hself hl hw,λd hd=> ?_⟩
   rw[fp,if_pos hd]
 . have nl:∀d,o.dst=some d->d∉op.looksAt ops:=λd hd=>qK hna ho hop (hready p h op hop) hni hd
   have hne:i≠p:=λq=>hni (q ▸ h)
   rw[ka (i:=i) (p:=p) nl]at hw
   obtain⟨v,h1,h2⟩:=hL p hp h op hop hl hw
   refine⟨v,?_,λd hd=> ?_⟩
   . rw[nr nl];exact Nm hext h1
   . rw[qL hs ho hop hne hd];exact h2 d hd
theorem oO {L:List Nat}(hcl:∀i,i∉L->∀o,ops[i]? = some o->∀e∈o.after,Region.binds .any e=true->e.on∉L):∀(q:Nat) (acc:List Nat),(∀x∈acc,x∉L)->∀x∈sK ops q acc,x∉L
 | 0,acc,h,x,hx=>h x hx
 | q+1,acc,h,x,hx=>by
   unfold sK at hx
   split at hx
   . rename_i hc
     split at hx
     . rename_i o ho
       refine oO hcl q _ ?_ x hx
       have hq:q∉L:=h q (by simpa using hc)
       have:∀(es:List Edge) (acc:List Nat),(∀e∈es,e∈o.after)->(∀x∈acc,x∉L)->∀x∈es.foldl (λl e=>if Region.binds .any e=true then e.on::l else l) acc,x∉L:=by
        intro es
        induction es with
        | nil=>exact λacc _ h=>h
        | cons e es ih=>
          intro acc hes h
          refine ih _ (λe' he'=>hes e' (List.mem_cons_of_mem _ he')) ?_
          dsimp only
          split
          . rename_i hb
            intro x hx
            rcases List.mem_cons.1 hx with hx | hx
            . subst hx;exact hcl q hq o ho e (hes e (by simp)) hb
            . exact h x hx
          . exact h
       exact this _ _ (λe he=>by simpa using he) h
     . exact oO hcl q _ h x hx
   . exact oO hcl q _ h x hx
theorem E7 {i:Nat}{π:List Nat}(hlin:qF ops (i::π))(hcl:∀j,j∉i::π->∀o,ops[j]? = some o->∀e∈o.after,Region.binds .any e=true->e.on∉i::π):
 ∀x∈ED ops i,x∉i::π:=by
 obtain⟨⟨o,ho,hdeps⟩,_⟩:=hlin
 unfold ED
 rw[ho]
 refine oO hcl i _ ?_
 have:∀(es:List Edge) (acc:List Nat),(∀e∈es,e∈o.after)->(∀x∈acc,x∉i::π)->∀x∈es.foldl (λl e=>if Region.binds .any e=true then e.on::l else l) acc,x∉i::π:=by
  intro es
  induction es with
  | nil=>exact λacc _ h=>h
  | cons e es ih=>
    intro acc hes h
    refine ih _ (λe' he'=>hes e' (List.mem_cons_of_mem _ he')) ?_
    dsimp only
    split
    . rename_i hb
      intro x hx
      rcases List.mem_cons.1 hx with hx | hx
      . subst hx;exact hdeps e (hes e (by simp)) hb
      . exact h x hx
    . exact h
 exact this _ _ (λe he=>by simpa using he) (λx hx=>by cases hx)
theorem eY.finish {i:Nat}{o:Oper}{chk:List Nat}{rest:List (Nat×List Nat)}(hD:eY P φ H tm tmps ops done iX ((i,chk)::rest) (i::π) κ lo hi)(ho:ops[i]? = some o)
 (hE:j0 (je ops) i o=false) {hi':Nat} (hle:φ.le φ') (hk:∀k,k<hi->φ[k]? = some none->φ'[k]? = some none/\hp H' k=hp H k) (hhi:hi<=hi') {u u':Value} (hu:VR φ' u u')
 (hdst:∀d,o.dst=some d->d<tmps.size) (hchk:chk.all (held P H' (cv tm o.dst u) ops)=true):
 eY P φ' H' (cv tm o.dst u) (iM tmps o.dst u') ops (i::done) chk rest π κ lo hi'/\j8 P H' (cv tm o.dst u) ops (i::done) π:=by
 obtain⟨o',ho',hni,hrdy,_,hpl⟩:=ij hD.D6
 rw[ho]at ho'
 cases ho'
 obtain⟨_,_,hlds,hplan⟩:=hpl hE
 obtain⟨⟨o',ho',hdeps⟩,hnπ,hlin⟩:=hD.ID
 rw[ho]at ho'
 cases ho'
 have hanc:=E7 hD.ID hD.closed
 have nl:∀p,p∈π->p∈done->∀op,ops[p]? = some op->∀d,o.dst=some d->d∉op.looksAt ops:=λp hpπ hpd op hp d hd=>xy hD.sa ho hp (hD.ready p hpd op hp) hni (λe he hb q=>hdeps e he hb (by rw[q];exact List.mem_cons_of_mem _ hpπ)) hd
 have pd:∀p,p∈π->p∈i::done->p∈done:=λp hp hpd=>(List.mem_cons.1 hpd).resolve_left (λq=>hnπ (q ▸ hp))
 have inchk:∀p,p∈π->p∈done->∀op,ops[p]? = some op->l5 op.op=true->p∈chk:=λp hp hpd op hop hl=>
  (hlds p (hD.iX p (List.mem_cons_of_mem _ hp) hpd op hop hl)).resolve_right (λq=>hanc p q (List.mem_cons_of_mem _ hp))
 refine⟨⟨hD.sa,hD.ac,hplan,hlin,λj hj hn=> ?_,λj hj x hx e he hb=> ?_,λj hj x hx=> ?_,?_,λj x d hx hxd hj=> ?_,λp hp hpd op hop=> ?_,λp hp hpd op hop hl=>inchk p hp (pd p hp hpd) op hop hl,λp q hp hpd hq hqd x y hx hy hxa hya hxw hyw heq=> ?_,λp hp hpd=>hD.own p (List.mem_cons_of_mem _ hp) (pd p hp hpd)⟩,?_⟩
 . rcases List.mem_cons.1 (hD.todo j hj (λq=>hn (List.mem_cons_of_mem _ q)))with h | h
   . subst h;exact absurd (List.mem_cons_self ..) hn
   . exact h
 . by_cases hji:j=i
   . subst hji
     rw[ho]at hx
     cases hx
     exact λh=>hdeps e he hb (List.mem_cons_of_mem _ h)
   . exact λh=>hD.closed j (λh=>(List.mem_cons.1 h).elim hji hj) x hx e he hb (List.mem_cons_of_mem _ h)
 . rw[dw]
   intro e he hb
   rcases List.mem_cons.1 hj with h | h
   . subst h
     rw[ho]at hx
     cases hx
     exact List.mem_cons_of_mem _ (dw.1 hrdy e he hb)
   . exact List.mem_cons_of_mem _ (dw.1 (hD.ready j h x hx) e he hb)
 . refine(hD.tr.mono hle).put hdst hu λt ht hne=> ?_
   obtain⟨p,h1,h2,h3⟩:=ht
   rcases List.mem_cons.1 h1 with h | h
   . subst h;exact absurd h2 hni
   . exact⟨p,h,List.mem_cons_of_mem _ h2,h3⟩
 . rw[d_]
   rcases List.mem_cons.1 hj with h | h
   . subst h;rw[ho]at hx;cases hx;exact hdst d hxd
   . exact hD.IW j x d hx hxd h
 . have hpd:=pd p hp hpd
   have hne:i≠p:=λq=>hni (q ▸ hpd)
   exact(hD.prom p (List.mem_cons_of_mem _ hp) hpd op hop).next hD.sa ho hop hne (nl p hp hpd op hop) hk rfl hhi
 . have hpd:=pd p hp hpd
   have hqd:=pd q hq hqd
   have wst:∀p,p∈π->p∈done->∀x,ops[p]? = some x->bO (cv tm o.dst u) ops x=some true->bO tm ops x=some true:=λp hpπ hpd x hx h=>by
    rw[ka (i:=i) (p:=p) (nl p hpπ hpd x hx)]at h;exact h
   exact hD.inj p q (List.mem_cons_of_mem _ hp) hpd (List.mem_cons_of_mem _ hq) hqd x y hx hy hxa hya (wst p hp hpd x hx hxw) (wst q hq hqd y hy hyw) heq
 . intro p hp hpd op hop hl hw
   have hpd:=pd p hp hpd
   have h1:=List.all_eq_true.1 hchk p (inchk p hp hpd op hop hl)
   unfold held at h1
   rw[hop]at h1
   have h1:Lw P H' (cv tm o.dst u) op (bO (cv tm o.dst u) ops op)=true:=h1
   rw[hw]at h1
   have h1:aa (rd P H' (cv tm o.dst u) op) (As (cv tm o.dst u) op.dst) false=true:=h1
   cases hr:rd P H' (cv tm o.dst u) op with
   | none=>rw[hr]at h1;cases h1
   | some v=>
     rw[hr]at h1
     have h1:As (cv tm o.dst u) op.dst v=true:=h1
     refine⟨v,rfl,λd hd=> ?_⟩
     unfold As at h1
     rw[hd]at h1
     cases hg:(cv tm o.dst u).get (bits d)with
     | none=>simp only[hg]at h1;cases h1
     | some v2=>
       simp only[hg]at h1
       rw[D4 h1]
theorem eY.head {i:Nat}{o:Oper}{chk:List Nat}{rest:List (Nat×List Nat)}(hD:eY P φ H tm tmps ops done iX ((i,chk)::rest) π κ lo hi)(ho:ops[i]? = some o)
 (hE:j0 (je ops) i o=false) (hn:∀q l,π=q::l->q∉done):∃l,π=i::l:=by
 obtain⟨o',ho',hni,hrdy,_,hpl⟩:=ij hD.D6
 rw[ho]at ho'
 cases ho'
 obtain⟨_,hrest,_,_⟩:=hpl hE
 have hi:=hD.todo i (Array.getElem?_eq_some_iff.1 ho).1 hni
 cases π with
 | nil=>cases hi
 | cons q l=>
   refine⟨l,?_⟩
   have hq:=hn q l rfl
   obtain⟨⟨oq,hoq,hdeps⟩,_,_⟩:=hD.ID
   have hqsz:=(Array.getElem?_eq_some_iff.1 hoq).1
   have hqr:eh ops done oq=true:=dw.2 λe he hb=>by
    have h1:=hdeps e he hb
    have h2:e.on<ops.size:=by
     have h3:=List.all_eq_true.1 hD.ac q (List.mem_range.2 hqsz)
     rw[hoq]at h3
     have h4:=List.all_eq_true.1 h3 e (by simpa using he)
     simp only[hb,Bool.not_true,Bool.false_or]at h4
     have:=eD h4
     omega
    by_cases h5:e.on∈done
    . exact h5
    . exact absurd (hD.todo e.on h2 h5) h1
   rcases lI _ _ _ hD.D6 q hqsz with h | ⟨c,h⟩
   . exact absurd h hq
   . rcases List.mem_cons.1 h with h | h
     . cases h;rfl
     . have:=hrest _ h oq hoq
       rw[hqr]at this
       cases this
theorem eY.last (hD:eY P φ H tm tmps ops done iX [] π κ lo hi)(hn:∀q l,π=q::l->q∉done):π=[]:=by
 cases π with
 | nil=>rfl
 | cons q l=>
   obtain⟨⟨oq,hoq,_⟩,_,_⟩:=hD.ID
   rcases lI _ _ _ hD.D6 q (Array.getElem?_eq_some_iff.1 hoq).1 with h | ⟨c,h⟩
   . exact absurd h (hn q l rfl)
   . cases h
theorem zi {pl:List (Nat×List Nat)}(h:tT ops=some pl):sk ops=true/\acyclic ops=true/\f_ ops (je ops) [] [] pl=true:=by
 unfold tT at h
 split at h
 . cases h
 . split at h
   . rename_i hc
     cases h
     simp only[Bool.and_eq_true]at hc
     exact⟨hc.1.1.1,hc.1.1.2,hc.2⟩
   . cases h
theorem eY.start {pl:List (Nat×List Nat)}(h:tT ops=some pl)(t:Nat)(htr:xp φ (λ_=>False) tm tmps)(lo hi:Nat):
 eY P φ H tm tmps ops [] [] pl (Region.schedule true ops t) id lo hi/\j8 P H tm ops [] (Region.schedule true ops t):=by
 obtain⟨h1,h2,h3⟩:=zi h
 obtain⟨h4,h5⟩:=D5 ops h2 t
 refine⟨⟨h1,h2,h3,h4,λi hi _=>h5 i hi,λi hi o ho=>absurd (h5 i (Array.getElem?_eq_some_iff.1 ho).1) hi,λi hi=>absurd hi List.not_mem_nil,λt v hv=>(htr t v hv).imp False.elim id,
  λi o d _ _ hi=>absurd hi List.not_mem_nil,λp _ hp=>absurd hp List.not_mem_nil,λp _ hp=>absurd hp List.not_mem_nil,λp q _ hp=>absurd hp List.not_mem_nil,λp _ hp=>absurd hp List.not_mem_nil⟩,λp _ hp=>absurd hp List.not_mem_nil⟩
end
section
variable {P:Program}
def kindOf (kd:Bool):CallKind:=match kd with
 | true=> .deferred
 | false=> .normal
inductive LC (P:Program)(φ:cA):List (FuncId×List Value)->List Deferred->Prop
 | nil:LC P φ [] []
 | cons {d:FuncId×List Value} {d':Deferred} {l:List (FuncId×List Value)} {l':List Deferred} (h:QO P φ d d') (hl:LC P φ l l'):LC P φ (d::l) (d'::l')
theorem LC.mono {φ φ':cA}(hle:φ.le φ'){l:List (FuncId×List Value)}{l':List Deferred}(h:LC P φ l l'):LC P φ' l l':=by
 induction h with
 | nil=>exact .nil
 | cons h _ ih=>exact .cons (h.mono hle) ih
def cq (c:Cg)(ds:List Deferred):FB:=⟨c.fn,kindOf c.kd,ds⟩
def fI (m:Option Value):FrameMode:=match m with
 | none=> .returning
 | some v=> .panicking [{ v,recovered:=false }]
def xz:List Frame->List Frame
 | C::r=>(match C.mode with
   | .panicking ({ v,recovered:=false,goexit:=false }::older)=>{ C with mode:= .panicking ({ v,recovered:=true }::older) }::r
   | _=>C::r)
 | []=>[]
def dY (rc:Bool)(cs:List Frame):List Frame:=match rc with
 | true=>xz cs
 | false=>cs
def zj (φ:cA)(kd:Bool)(rp:Option Value)(rc:Bool)(cs0:List Frame):Prop:=kd=true->match rp with
 | some v=>rc=false/\∃C r v' older,cs0=C::r/\C.mode= .panicking ({ v:=v',recovered:=false,goexit:=false }::older)/\VR φ v v'
 | none=>∀F:Frame,F.kind= .deferred->tryRecover F (dY rc cs0)=none
theorem zj.mono {φ φ':cA}(hle:φ.le φ'){kd:Bool}{rp:Option Value}{rc:Bool}{cs0:List Frame}(h:zj φ kd rp rc cs0):zj φ' kd rp rc cs0:=λq=>by
 have:=h q
 cases rp with
 | none=>exact this
 | some v=>
   obtain⟨a,C,r,v',older,b,c,d⟩:=this
   exact⟨a,C,r,v',older,b,c,d.mono hle⟩
theorem zk {F:Frame}{cs:List Frame}(h:F.kind= .normal):tryRecover F cs=none:=by
 unfold tryRecover
 rw[h]
theorem gJ {F C:Frame}{cs:List Frame}(h:F.kind= .deferred):tryRecover F (C::cs)=(match C.mode with
 | .panicking ({ v,recovered:=false,goexit:=false }::older)=>some (v,{ C with mode:= .panicking ({ v,recovered:=true }::older) }::cs)
 | _=>none):=by
 conv=>lhs;unfold tryRecover
 rw[h]
 rfl
theorem E8 {F:Frame}{cs:List Frame}(h:F.kind= .deferred):tryRecover F (xz cs)=none:=by
 cases cs with
 | nil=>unfold tryRecover;rw[h];rfl
 | cons C r=>
   show tryRecover F (match C.mode with
   | .panicking ({ v,recovered:=false,goexit:=false }::older)=>{ C with mode:= .panicking ({ v,recovered:=true }::older) }::r
   | _=>C::r)=none
   split
   . rw[gJ h]
   . rename_i hn
     rw[gJ h]
     split
     . rename_i v older q
       exact absurd q (hn v older)
     . rfl
theorem D8 {C:Frame}{r:List Frame}(h:∀l,C.mode ≠ .panicking l):xz (C::r)=C::r:=by
 show(match C.mode with
  | .panicking ({ v,recovered:=false,goexit:=false }::older)=>{ C with mode:= .panicking ({ v,recovered:=true }::older) }::r
  | _=>C::r)=C::r
 split
 . rename_i q;exact absurd q (h _)
 . rfl
theorem xA {C:Frame}{r:List Frame}(rc:Bool)(h:∀l,C.mode ≠ .panicking l):dY rc (C::r)=C::r:=by
 cases rc
 . rfl
 . exact D8 h
def QS (P:Program)(φ:cA)(o:Out)(fr:Frame)(w:World):Prop:=match o with
 | .ret v=>∃v',VR φ v v'/\fr.going P w (.returned v')
 | .fR v=>∃v',VR φ v v'/\fr.going P w (.panicked [{ v:=v',recovered:=false }])
variable {W w w' w1:World}{f fn:FuncId}{cs cs0:List Frame}{r:Rt}{fr fr' fr1:Frame}{φ φ' φ1:cA}{H H' H1:T OB}{nx nx' aC nt lo hi:Nat}{tm:T Value}{tmps:Array Value}{ops:Array Oper}
 {todo k:List Item} {c:Cg} {ds:List Deferred} {kd:Bool} {O:bE->Option Rt}
def c_ (P:Program)(W:World)(kd:Bool)(fn:FuncId)(lo:Nat)(cs0:List Frame)(rc:Bool)(φ:cA)(H:T OB)(r:Rt)(fr:Frame)(w:World):Prop:=
 ∃φ' w' frl,Steps P (lone fr (dY rc cs0) w) (lone frl (dY r.rc cs0) w')/\φ.le φ'/\HR P W φ' (hp r.H) w'/\φ'.length=r.nx/\(∀k,k<lo->φ[k]? = some none->φ'[k]? = some none/\hp r.H k=hp H k)/\
  frl.kind=kindOf kd/\frl.fn=fn/\QS P φ' r.o frl w'
theorem c_.steps {rc rc1:Bool}(hs:Steps P (lone fr (dY rc cs0) w) (lone fr1 (dY rc1 cs0) w1))(hle:φ.le φ1)(hk:∀k,k<lo->φ[k]? = some none->φ1[k]? = some none/\hp H1 k=hp H k)
 (h:c_ P W kd fn lo cs0 rc1 φ1 H1 r fr1 w1):c_ P W kd fn lo cs0 rc φ H r fr w:=by
 obtain⟨φ',w',frl,h1,h2,h3,h4,h5,h6,h7,h8⟩:=h
 exact⟨φ',w',frl,hs.trans h1,cA.le_trans hle h2,h3,h4,λk hk' q=>⟨(h5 k hk' (hk k hk' q).1).1,(h5 k hk' (hk k hk' q).1).2.trans (hk k hk' q).2⟩,h6,h7,h8⟩
theorem c_.step1 {rc:Bool}(hs:Steps P (lone fr (dY rc cs0) w) (lone fr1 (dY rc cs0) w))(h:c_ P W kd fn lo cs0 rc φ H r fr1 w):c_ P W kd fn lo cs0 rc φ H r fr w:=
 h.steps hs φ.le_refl λ_ _ q=>⟨q,rfl⟩
theorem oP {a:Rt}(h:(Q.ret a).run O=some r):a=r:=by cases h;rfl
theorem gm (h:Q.bad.run O=some r):False:=by cases h
theorem mn {q:bE}{g:Rt->Q}(h:(Q.ask q g).run O=some r):∃a,O q=some a/\(g a).run O=some r:=by
 have h:aa (O q) (λa=>(g a).run O) none=some r:=h
 exact aH h
theorem E9 {q:bE}(h:(Q.jump q).run O=some r):O q=some r:=h
theorem bH {α:Type}{x:Option α}{g:α->Q}(h:(aa x g .bad).run O=some r):∃a,x=some a/\(g a).run O=some r:=by
 cases x with
 | none=>cases h
 | some a=>exact⟨a,rfl,h⟩
theorem kL {b:Bool}{x:Q}(h:(bif b then x else Q.bad).run O=some r):b=true/\x.run O=some r:=by
 cases b
 . cases h
 . exact⟨rfl,h⟩
theorem ec {b:Bool}{x y:Q}(h:(bK b x y).run O=some r):(b=true/\x.run O=some r)\/(b=false/\y.run O=some r):=by
 cases b
 . exact .inr ⟨rfl,h⟩
 . exact .inl ⟨rfl,h⟩
theorem cU {dst:Option Tmp}{v:Value}{g:T Value->Q}(h:(jd nt tm dst v g .bad).run O=some r):(∀d,dst=some d->d<nt)/\(g (cv tm dst v)).run O=some r:=by
 cases dst with
 | none=>exact⟨λd hd=>(by cases hd),h⟩
 | some d=>
   obtain⟨h1,h2⟩:=kL (show(bif Nat.blt d nt then da (bits d) tm (some v) g else Q.bad).run O=some r from h)
   rw[a_]at h2
   exact⟨λd' hd=>by cases hd;exact eD h1,h2⟩
theorem mo {t:Bool}{dst:Option Tmp}{v:Value}{g:T Value->Q}(h:(DR P t nt tm dst v g).run O=some r):(∀d,dst=some d->d<nt)/\(g (cv tm dst v)).run O=some r:=by
 unfold DR at h
 rcases ec h with⟨_,h1⟩ | ⟨_,h1⟩
 . unfold aB at h1
   split at h1
   . exact cU h1
   . cases h1
 . exact cU h1
theorem oQ {e:eC}{g:Value->T OB->Nat->Q}(h:(ak e g).run O=some r):∃v H nx,e= .val v H nx/\(g v H nx).run O=some r:=by
 cases e with
 | val v H nx=>exact⟨v,H,nx,rfl,h⟩
 | _=>cases h
theorem E_ {x:Option Value}{g:Nat->Nat->Q}(h:(IH x g).run O=some r):∃b off,x=some (.pointer (some ⟨b,off,none⟩))/\(g b off).run O=some r:=by
 unfold IH at h
 split at h
 . exact⟨_,_,rfl,h⟩
 . cases h
theorem zl {x:Option OB}{g:Nat->T Value->TypeId->Q}(h:(lB x g).run O=some r):∃n t e,x=some (.cells n t e)/\(g n t e).run O=some r:=by
 unfold lB at h
 split at h
 . exact⟨_,_,_,rfl,h⟩
 . cases h
theorem iN {α:Type}(v:α):∀(bs:List Bool) (t:T α),t.get bs=some v->set t bs (some v)=t
 | [],.leaf,h=>by cases h
 | [],.node x l r,h=>by have h:x=some v:=h;subst h;rfl
 | b::bs,.leaf,h=>by rw[iH]at h;cases h
 | false::bs,.node x l r,h=>by rw[gR,iN v bs l h]
 | true::bs,.node x l r,h=>by rw[iw,iN v bs r h]
theorem ta {o:Oper}{yes no:T Value->Q}(h:(tU tm ops o.guard yes no).run O=some r):∃b,bO tm ops o=some b/\(b=true->(yes tm).run O=some r)/\(b=false->(no tm).run O=some r):=by
 unfold bO
 unfold tU at h
 split at h
 . rename_i hg
   exact⟨true,(by first | rfl | rw[hg]),λ_=>h,λq=>(by cases q)⟩
 . rename_i p hg
   obtain⟨d,hd,h1⟩:=bH h
   show ∃b,aa (iG ops p.1) (λd=>jZ tm d p.2) none=some b/\_
   rw[hd]
   show ∃b,jZ tm d p.2=some b/\_
   unfold jZ
   split at h1
   . rename_i x hx
     rw[a_,a_,a_,a_]at h1
     refine⟨_,rfl,λq=> ?_,λq=> ?_⟩
     . have q:x=p.2:=by simpa using q
       subst q
       rcases ec h1 with⟨h2,h3⟩ | ⟨h2,h3⟩
       . rw[h2]at h3 hx
         have h3:(yes (set tm (bits d) (some (.bool true)))).run O=some r:=h3
         rwa[iN _ _ _ hx]at h3
       . rw[h2]at h3 hx
         have h3:(yes (set tm (bits d) (some (.bool false)))).run O=some r:=h3
         rwa[iN _ _ _ hx]at h3
     . have q:x≠p.2:=by simpa using q
       rcases ec h1 with⟨h2,h3⟩ | ⟨h2,h3⟩
       . have:x=false:=by cases x<;>simp_all
         subst this
         have h3:(no (set tm (bits d) (some (.bool false)))).run O=some r:=h3
         rwa[iN _ _ _ hx]at h3
       . have:x=true:=by cases x<;>simp_all
         subst this
         have h3:(no (set tm (bits d) (some (.bool true)))).run O=some r:=h3
         rwa[iN _ _ _ hx]at h3
   . rename_i x hx
     exact⟨false,rfl,λq=>(by cases q),λ_=>h1⟩
   . cases h1
theorem qM (hle:φ.le φ')(hk:eP φ φ' (hp H) (hp H')):φ.length<=φ'.length:=by
 rcases Nat.eq_zero_or_pos φ.length with h | h
 . omega
 . have hlt:φ.length-1<φ.length:=by omega
   have hq:=List.getElem?_eq_getElem hlt
   cases hx:φ[φ.length-1]with
   | none=>rw[hx]at hq;have:=(List.getElem?_eq_some_iff.1 (hk _ hq).1).1;omega
   | some e=>rw[hx]at hq;have:=(List.getElem?_eq_some_iff.1 (hle _ _ hq)).1;omega
theorem HR.Tf {g:Nat->Option OB}(hH:HR P W φ g w){b n:Nat}{t:T Value}{e:gF}(hg:g b=some .dead)(hb:φ[b]? = some (some e))(hob:w8 P W φ (.ro n t) e w):HR P W φ (nd g b (some (.ro n t))) w where
 below:=hH.below
 gl:=hH.gl
 nR:=λk o h=>by
  by_cases hk:k=b
  . subst hk;exact hH.nR k _ hg
  . rw[aY g hk]at h;exact hH.nR k o h
 m7:=hH.m7
 inj:=λk k' oa oa' x x' h h' hk hk' hla hla' hr=>by
  have hx:∀j oj,nd g b (some (.ro n t)) j=some oj->live oj=true->g j=some oj:=by
   intro j oj h hl'
   by_cases hj:j=b
   . subst hj;rw[cK]at h;cases h;cases hl'
   . rwa[aY g hj]at h
  exact hH.inj k k' _ _ x x' h h' (hx k _ hk hla) (hx k' _ hk' hla') hla hla' hr
 obj:=λk oa x hk h=>by
  by_cases hkb:k=b
  . subst hkb
    rw[cK]at hk
    cases hk
    rw[hb]at h
    cases h
    exact hob
  . rw[aY g hkb]at hk
    exact hH.obj k oa x hk h
 jU:=hH.jU
 qn:=λk k' x x' c o h hf h' hk' hl'=>by
  by_cases hkb:k'=b
  . subst hkb
    rw[cK]at hk'
    cases hk'
    cases hl'
  . rw[aY g hkb]at hk'
    exact hH.qn k k' x x' c o h hf h' hk' hl'
theorem HR.ghost {g:Nat->Option OB}(hH:HR P W φ g w){e:gF}{c:Array Value}{el:TypeId}{fz:Nat×Nat}(hf:e.fz=some c)(hr:w.heap[e.r]? = some (.cells c el fz))
 (hno:∀(k:Nat) (x:gF) (ob:OB),φ[k]? = some (some x)->g k=some ob->live ob=true->x.r≠e.r):HR P W (φ++[some e]) g w where
 below:=hH.below
 gl:=hH.IT (cI φ _)
 nR:=λk o h=>by have:=hH.nR k o h;simp;omega
 m7:=λk x h=>by
  rcases bJ h with h | ⟨_,h⟩
  . exact hH.m7 k x h
  . cases h;exact(Array.getElem?_eq_some_iff.1 hr).1
 inj:=λk k' o1 o2 x x' h h' hg hg' hl hl' hrr=>by
  have l1:=hH.nR k _ hg
  have l2:=hH.nR k' _ hg'
  rcases bJ h with h0 | ⟨hk,_⟩
  . rcases bJ h' with h1 | ⟨hk',_⟩
    . exact hH.inj k k' o1 o2 x x' h0 h1 hg hg' hl hl' hrr
    . omega
  . omega
 obj:=λk oa x hg h=>by
  have l1:=hH.nR k _ hg
  rcases bJ h with h0 | ⟨hk,_⟩
  . exact(hH.obj k oa x hg h0).mono (cI φ _)
  . omega
 jU:=λk x c' h hf'=>by
  rcases bJ h with h1 | ⟨_,hx⟩
  . exact hH.jU k x c' h1 hf'
  . cases hx;rw[hf]at hf';cases hf';exact⟨el,fz,hr⟩
 qn:=λk k' x x' c' o h hf' h' hg hl=>by
  have l2:=hH.nR k' _ hg
  rcases bJ h' with h2 | ⟨hk',_⟩
  . rcases bJ h with h1 | ⟨_,hx⟩
    . exact hH.qn k k' x x' c' o h1 hf' h2 hg hl
    . cases hx;exact hno k' x' o h2 hg hl
  . omega
theorem HR.grown {g:Nat->Option OB}(hH:HR P W φ g w)(hb:Below w.heap.size w w'):HR P W φ g w':=by
 have hr:∀(k:Nat) (e:gF),φ[k]? = some (some e)->w'.heap[e.r]? = w.heap[e.r]? := λk e h=>hb.block e.r (hH.m7 k e h)
 exact {
  below:=hH.below.trans (hb.mono hH.below.size)
  gl:=hH.gl
  nR:=hH.nR
  m7:=λk e h=>Nat.lt_of_lt_of_le (hH.m7 k e h) hb.size
  inj:=hH.inj
  obj:=λk ob e hg h=>(hH.obj k ob e hg h).heap λ_=>hr k e h
  jU:=λk e c h hf=>by obtain⟨el,fz,q⟩:=hH.jU k e c h hf;exact⟨el,fz,by rw[hr k e h];exact q⟩
  qn:=hH.qn }
theorem nX {a:Bool}{s:Nat}:∀(n:Nat) (l es:List Value),chunk a s n l=some es->(a=false->s=1)->(es.all λx=>bK a true (ax x))=true->
 es.length=n/\l.length=n*s/\(∀x∈es,x.cells.toList.length=s)/\∀(i j:Nat) (x v:Value),es[i]? = some x->x.cells.toList[j]? = some v->l[i*s+j]? = some v
 | 0,l,es,h,_,_=>by
   obtain⟨h1,h2⟩:=aR (show(bif l.isEmpty then some []else none)=some es from h)
   cases h2
   exact⟨rfl,by rw[List.isEmpty_iff.1 h1];simp,λx hx=>by simp at hx,λi j x v hi=>by simp at hi⟩
 | n+1,l,es,h,hs,hone=>by
   obtain⟨h1,h2⟩:=aR (show(bif Nat.ble s l.length then aa (chunk a s n (l.drop s)) (λr=>bK a (some (.agg ⟨l.take s⟩::r)) (aa l.head? (λv=>some (v::r)) none)) none else none)=some es from h)
   have h1:=cL h1
   obtain⟨es',h3,h4⟩:=aH h2
   have key:∃x,es=x::es'/\x.cells.toList=l.take s:=by
    cases a with
    | true=>have h4:some (Value.agg ⟨l.take s⟩::es')=some es:=h4;cases h4;exact⟨_,rfl,rfl⟩
    | false=>
      have hs:=hs rfl
      subst hs
      have h4:aa l.head? (λv=>some (v::es')) none=some es:=h4
      cases l with
      | nil=>simp at h1
      | cons v l=>
        have h4:some (v::es')=some es:=h4
        cases h4
        refine⟨v,rfl,?_⟩
        have hv:ax v=true:=by
         have:=List.all_eq_true.1 hone v (by simp)
         exact this
        cases v<;>first | rfl | cases hv
   obtain⟨x,rfl,hx⟩:=key
   have hone':(es'.all λx=>bK a true (ax x))=true:=by simp only[List.all_cons,Bool.and_eq_true]at hone;exact hone.2
   obtain⟨h5,h6,h7,h8⟩:=nX n _ _ h3 hs hone'
   refine⟨by simp[h5],?_,λy hy=> ?_,λi j y v hi hj=> ?_⟩
   . rw[List.length_drop]at h6;rw[Nat.succ_mul];omega
   . rcases List.mem_cons.1 hy with rfl | hy
     . rw[hx];simp;omega
     . exact h7 y hy
   . cases i with
     | zero=>
       simp at hi
       subst hi
       rw[hx,List.getElem?_take]at hj
       split at hj
       . simpa using hj
       . cases hj
     | succ i=>
       have hi:es'[i]? = some y:=by simpa using hi
       have:=h8 i j y v hi hj
       rw[List.getElem?_drop]at this
       rw[Nat.succ_mul,<- this]
       congr 1
       omega
def fJ (P:Program)(W:World)(φ:cA)(H:T OB)(nx:Nat)(w:World)(φ':cA)(H':T OB)(nx':Nat):Prop:=
 φ.le φ'/\HR P W φ' (hp H') w/\φ'.length=nx'/\eP φ φ' (hp H) (hp H')/\nx<=nx'
theorem fJ.refl (hH:HR P W φ (hp H) w)(bW:φ.length=nx):fJ P W φ H nx w φ H nx:=⟨φ.le_refl,hH,bW,eP.refl _ _,Nat.le_refl _⟩
theorem fJ.trans {φ'':cA}{H'':T OB}{nx'':Nat}(h:fJ P W φ H nx w φ' H' nx')(h':fJ P W φ' H' nx' w φ'' H'' nx''):fJ P W φ H nx w φ'' H'' nx'':=
 ⟨cA.le_trans h.1 h'.1,h'.2.1,h'.2.2.1,h.2.2.2.1.trans h'.2.2.2.1,Nat.le_trans h.2.2.2.2 h'.2.2.2.2⟩
theorem jl (hH:HR P W φ (hp H) w)(bW:φ.length=nx){t:TypeId}{v v':Value}(hv:VR φ v v'){g:Value->T OB->Nat->Q}(h:(eH P t v H nx g).run O=some r):
 ∃φ' u H' nx',(g u H' nx').run O=some r/\VR φ' u v'/\fJ P W φ H nx w φ' H' nx':=by
 unfold eH at h
 split at h
 case h_3=>exact⟨φ,v,H,nx,h,hv,.refl hH bW⟩
 case h_2=>
  rename_i e hu
  split at h
  . rename_i b
    obtain⟨x,hx,h1⟩:=bH h
    rw[a_,ba]at h1
    obtain⟨en,hb,_,rfl⟩:=hv.ek
    unfold QA at hx
    obtain⟨m,tr,el,hg,h2⟩:=qi hx
    obtain⟨s,hs,h3⟩:=aH h2
    obtain⟨a,ha,h4⟩:=aH h3
    obtain⟨h5,h6⟩:=aR h4
    obtain⟨l,hl,h7⟩:=aH h6
    have hms:=beq_eq h5
    have key:∃u,x=aj u/\u.cells.toList=l:=by
     cases a with
     | true=>
       have h7:some (aj (.agg ⟨l⟩))=some x:=h7
       cases h7
       exact⟨_,rfl,rfl⟩
     | false=>
       obtain⟨u,hu',h8⟩:=aH (show aa l.head? (λv=>bif Nat.beq l.length 1&&ax v then some (aj v)else none) none=some x from h7)
       obtain⟨h9,h10⟩:=aR h8
       cases h10
       simp only[Bool.and_eq_true]at h9
       have hl1:=beq_eq h9.1
       refine⟨u,rfl,?_⟩
       have hcell:u.cells.toList=[u]:=by cases u<;>first | rfl | cases h9.2
       rw[hcell]
       cases l with
       | nil=>cases hu'
       | cons y l=>
         cases hu'
         cases l with
         | nil=>rfl
         | cons _ _=>simp at hl1
    obtain⟨u,rfl,hul⟩:=key
    have hg':hp H b=some (.cells m tr el):=hg
    obtain⟨c,el',hrow,hrsz,hrn,qy⟩:=hH.cells hg' hb
    obtain⟨q1,q2⟩:=lC qy hl (by omega) (by omega)
    have hkill:HR P W φ (hp (set H (bits b) (some .dead))) w:=by rw[bB];exact hH.kill hg' hb
    have hgh:=hkill.ghost (e:=⟨en.r,en.sz,en.es,some c⟩) rfl hrow (λk x ob hk hgk hlk hr=>by
     rw[bB]at hgk
     by_cases hkb:k=b
     . subst hkb;rw[cK]at hgk;cases hgk;cases hlk
     . rw[aY _ hkb]at hgk
       exact hkb (hH.inj k b _ _ x en hk hb hgk hg' hlk rfl hr))
    refine⟨_,_,_,_,h1,?_,cI φ _,hgh,by simp[bW],?_,by omega⟩
    . refine VR.ep (e:=⟨en.r,en.sz,en.es,some c⟩) (c:=c) (eE φ _) rfl (by rw[hul,q2];omega) (λj a b' hja hjb=> ?_)
      rw[hul]at hja
      have hjl:=(List.getElem?_eq_some_iff.1 hja).1
      refine VR.mono (cI φ _) (q1.at_ j a b' hja ?_)
      rw[List.drop_zero,List.getElem?_take,if_pos (by omega),Array.getElem?_toList]
      rw[Nat.zero_add]at hjb
      exact hjb
    . intro k hk
      refine⟨?_,?_⟩
      . rw[List.getElem?_append_left (List.getElem?_eq_some_iff.1 hk).1];exact hk
      . rw[bB,aY]
        intro q;subst q;rw[hb]at hk;cases hk
  . exact⟨φ,v,H,nx,h,hv,.refl hH bW⟩
 rename_i e hu
 split at h
 . rename_i b off n cp
   obtain⟨hcp,h⟩:=kL h
   simp only[Bool.or_eq_true]at hcp
   obtain⟨x,hx,h1⟩:=bH h
   rw[a_,ba]at h1
   obtain⟨en,c',hb,_,rfl,hcap⟩:=hv.eJ
   unfold DO at hx
   obtain⟨m,tr,el,hg,h2⟩:=qi hx
   obtain⟨s,hs,h3⟩:=aH h2
   obtain⟨a,ha,h4⟩:=aH h3
   obtain⟨h5,h6⟩:=aR h4
   obtain⟨l,hl,h7⟩:=aH h6
   obtain⟨es,hes,h8⟩:=aH h7
   obtain⟨h9,h10⟩:=aR h8
   cases h10
   simp only[Bool.and_eq_true,Bool.or_eq_true]at h5
   have hle:=cL h5.1.1
   have hs1:a=false->s=1:=λq=>by
    rcases h5.2 with q' | q'
    . rw[q]at q';cases q'
    . exact beq_eq q'
   obtain⟨g1,g2,g3,g4⟩:=nX n l es hes hs1 h9
   have hg':hp H b=some (.cells m tr el):=hg
   obtain⟨c,el',hrow,hrsz,hrn,qy⟩:=hH.cells hg' hb
   obtain⟨q1,q2⟩:=lC qy hl hle (by omega)
   have hcl:n<=c':=by
    rcases hcap with⟨q,rfl⟩ | ⟨_,q,_⟩
    . rcases hcp with h' | h'
      . exact absurd (beq_eq h') q
      . exact cL h'
    . exact q
   have hkill:HR P W φ (hp (set H (bits b) (some .dead))) w:=by rw[bB];exact hH.kill hg' hb
   have hgh:=hkill.ghost (e:=⟨en.r,en.sz,en.es,some c⟩) rfl hrow (λk x ob hk hgk hlk hr=>by
    rw[bB]at hgk
    by_cases hkb:k=b
    . subst hkb;rw[cK]at hgk;cases hgk;cases hlk
    . rw[aY _ hkb]at hgk
      exact hkb (hH.inj k b _ _ x en hk hb hgk hg' hlk rfl hr))
   have hro:=hgh.Tf (b:=b) (n:=m) (t:=tr) (e:=en) (by rw[bB,cK]) (by rw[List.getElem?_append_left (List.getElem?_eq_some_iff.1 hb).1];exact hb) (.inr ⟨_,_,c,eE φ _,rfl,rfl,by omega,qy.mono (cI φ _)⟩)
   rw[bB,mf,<- bB]at hro
   rw[show S9 (H.get (bits b))= .ro m tr by rw[hg];rfl]at h1
   refine⟨_,_,_,_,h1,?_,cI φ _,hro,by simp[bW],?_,by omega⟩
   . rw[<- g1]
     have hlen:es.length*s=n*s:=by rw[g1]
     refine VR.row (e:=⟨en.r,en.sz,en.es,some c⟩) (c:=c) (eE φ _) rfl g3 (λ_=> ?_) (by omega) (λi j x u u' hi hj hc=> ?_)
     . rw[hlen];omega
     . have h11:=g4 i j x u hi hj
       have hlt:=(List.getElem?_eq_some_iff.1 h11).1
       refine VR.mono (cI φ _) (q1.at_ (i*s+j) u u' h11 ?_)
       rw[List.getElem?_take,if_pos (by omega),List.getElem?_drop,Array.getElem?_toList,<- Nat.add_assoc]
       exact hc
   . intro k hk
     refine⟨?_,?_⟩
     . rw[List.getElem?_append_left (List.getElem?_eq_some_iff.1 hk).1];exact hk
     . rw[bB,aY]
       intro q;subst q;rw[hb]at hk;cases hk
 . rename_i n c
   obtain⟨h1,h2⟩:=kL h
   simp only[Bool.and_eq_true]at h1
   obtain⟨s,hs,h3⟩:=bH h2
   have e1:=beq_eq h1.1
   have e2:=beq_eq h1.2
   subst e1 e2
   have:=hv.aG rfl
   subst this
   exact⟨φ,_,H,nx,h3,.qk s,.refl hH bW⟩
 . exact⟨φ,v,H,nx,h,hv,.refl hH bW⟩
theorem qN:∀(fs:List Field) (cs cs':List Value) (φ:cA) (H:T OB) (nx:Nat),HR P W φ (hp H) w->φ.length=nx->LR φ cs cs'->∀{g:List Value->T OB->Nat->Q},(IF P fs cs H nx g).run O=some r->
 ∃φ' us H' nx',(g us H' nx').run O=some r/\LR φ' us cs'/\fJ P W φ H nx w φ' H' nx'
 | [],cs,cs',φ,H,nx,hH,bW,hl,g,h=>⟨φ,cs,H,nx,h,hl,.refl hH bW⟩
 | f::fs,cs,cs',φ,H,nx,hH,bW,hl,g,h=>by
   obtain⟨v,hv,h1⟩:=bH (show(aa cs[f.offset]? (λv=>eH P f.type v H nx λv H nx=>IF P fs (cs.set f.offset v) H nx g) .bad).run O=some r from h)
   obtain⟨v',hv',hvr⟩:=hl.get hv
   obtain⟨φ1,u,H1,aC,h2,h3,h4⟩:=jl hH bW hvr h1
   have hl1:LR φ1 (cs.set f.offset u) cs':=by
    have:=(hl.mono h4.1).set f.offset h3
    have e:cs'.set f.offset v'=cs':=by
     refine List.ext_getElem? λi=> ?_
     rw[List.getElem?_set]
     by_cases hi:f.offset=i
     . subst hi;rw[if_pos rfl,hv',if_pos (List.getElem?_eq_some_iff.1 hv').1]
     . rw[if_neg hi]
    rw[e]at this
    exact this
   obtain⟨φ2,us,H2,nx2,h5,h6,h7⟩:=qN fs _ cs' φ1 H1 aC h4.2.1 h4.2.2.1 hl1 h2
   exact⟨φ2,us,H2,nx2,h5,h6,h4.trans h7⟩
theorem zm (hH:HR P W φ (hp H) w)(bW:φ.length=nx){t:TypeId}{v v':Value}(hv:VR φ v v'){g:Value->T OB->Nat->Q}(h:(dK P t v H nx g).run O=some r):
 ∃φ' u H' nx',(g u H' nx').run O=some r/\VR φ' u v'/\fJ P W φ H nx w φ' H' nx':=by
 unfold dK at h
 split at h
 . split at h
   . obtain⟨c',rfl,h1⟩:=hv.kJ
     obtain⟨φ',us,H',nx',h2,h3,h4⟩:=qN _ _ _ _ _ _ hH bW h1 h
     exact⟨φ',_,H',nx',h2,h3.agg,h4⟩
   . cases h
 . exact jl hH bW hv h
def Fa (P:Program)(W:World)(O:bE->Option Rt)(w:World)(one:Value->T OB->Nat->(Value->T OB->Nat->Q)->Q):Prop:=
 ∀(v v':Value) (φ:cA) (H:T OB) (nx:Nat) (r:Rt),HR P W φ (hp H) w->φ.length=nx->VR φ v v'->∀{g:Value->T OB->Nat->Q},(one v H nx g).run O=some r->
  ∃φ' u H' nx',(g u H' nx').run O=some r/\VR φ' u v'/\fJ P W φ H nx w φ' H' nx'
theorem lJ {one:TypeId->Value->T OB->Nat->(Value->T OB->Nat->Q)->Q}(ho:∀t,Fa P W O w (one t)):∀(l:List (Nat×TypeId)) (cs cs':List Value) (φ:cA) (H:T OB) (nx:Nat),HR P W φ (hp H) w->φ.length=nx->LR φ cs cs'->∀{g:List Value->T OB->Nat->Q},(DP one l cs H nx g).run O=some r->
 ∃φ' us H' nx',(g us H' nx').run O=some r/\LR φ' us cs'/\us.length=cs.length/\fJ P W φ H nx w φ' H' nx'
 | [],cs,cs',φ,H,nx,hH,bW,hl,g,h=>⟨φ,cs,H,nx,h,hl,rfl,.refl hH bW⟩
 | p::l,cs,cs',φ,H,nx,hH,bW,hl,g,h=>by
   obtain⟨v,hv,h1⟩:=bH (show(aa cs[p.1]? (λv=>one p.2 v H nx λv H nx=>DP one l (cs.set p.1 v) H nx g) .bad).run O=some r from h)
   obtain⟨v',hv',hvr⟩:=hl.get hv
   obtain⟨φ1,u,H1,aC,h2,h3,h4⟩:=ho p.2 v v' φ H nx r hH bW hvr h1
   have hl1:LR φ1 (cs.set p.1 u) cs':=by
    have:=(hl.mono h4.1).set p.1 h3
    have e:cs'.set p.1 v'=cs':=by
     refine List.ext_getElem? λi=> ?_
     rw[List.getElem?_set]
     by_cases hi:p.1=i
     . subst hi;rw[if_pos rfl,hv',if_pos (List.getElem?_eq_some_iff.1 hv').1]
     . rw[if_neg hi]
    rw[e]at this
    exact this
   obtain⟨φ2,us,H2,nx2,h5,h6,h8,h7⟩:=lJ ho l _ cs' φ1 H1 aC h4.2.1 h4.2.2.1 hl1 h2
   exact⟨φ2,us,H2,nx2,h5,h6,by rw[h8,List.length_set],h4.trans h7⟩
def U8 (φ:cA)(s:Nat)(c:Array Value)(o:Nat)(es:List Value):Prop:=
 (∀x∈es,x.cells.toList.length=s)/\∀(i j:Nat) (x v v':Value),es[i]? = some x->x.cells.toList[j]? = some v->c[o+i*s+j]? = some v'->VR φ v v'
theorem qO {one:TypeId->Value->T OB->Nat->(Value->T OB->Nat->Q)->Q}(ho:∀t,Fa P W O w (one t))(offs:List (Nat×TypeId)){s:Nat}{c:Array Value}:∀(es:List Value) (o:Nat) (φ:cA) (H:T OB) (nx:Nat),HR P W φ (hp H) w->φ.length=nx->U8 φ s c o es->o+es.length*s<=c.size->
 ∀{g:List Value->T OB->Nat->Q},(j2 (j1 one offs) es H nx g).run O=some r->
 ∃φ' us H' nx',(g us H' nx').run O=some r/\U8 φ' s c o us/\us.length=es.length/\fJ P W φ H nx w φ' H' nx'
 | [],o,φ,H,nx,hH,bW,hl,hn,g,h=>⟨φ,[],H,nx,h,⟨λx hx=>by simp at hx,λi j x v v' hi=>by simp at hi⟩,rfl,.refl hH bW⟩
 | x::es,o,φ,H,nx,hH,bW,hl,hn,g,h=>by
   have h:(j1 one offs x H nx λv H nx=>j2 (j1 one offs) es H nx λl H nx=>g (v::l) H nx).run O=some r:=h
   have hxs:=hl.1 x (by simp)
   rw[List.length_cons,Nat.add_mul,Nat.one_mul]at hn
   have step:∃φ1 u H1 aC,(j2 (j1 one offs) es H1 aC λl H nx=>g (u::l) H nx).run O=some r/\fJ P W φ H nx w φ1 H1 aC/\u.cells.toList.length=s/\∀(j:Nat) (v v':Value),u.cells.toList[j]? = some v->c[o+j]? = some v'->VR φ1 v v':=by
    have hx0:∀(j:Nat) (v v':Value),x.cells.toList[j]? = some v->c[o+j]? = some v'->VR φ v v':=λj v v' hj hc=>hl.2 0 j x v v' rfl hj (by rw[Nat.zero_mul,Nat.add_zero];exact hc)
    by_cases hag:∃cs,x= .agg ⟨cs⟩
    . obtain⟨cs,rfl⟩:=hag
      have hlen:((c.toList.drop o).take s).length=s:=by simp;omega
      have hcs:LR φ cs ((c.toList.drop o).take s):=⟨by rw[hlen];exact hxs,λj v v' hj hj'=>hx0 j v v' hj (by
       have hjl:=(List.getElem?_eq_some_iff.1 hj').1
       rw[List.getElem?_take,if_pos (by omega),List.getElem?_drop,Array.getElem?_toList]at hj'
       exact hj')⟩
      obtain⟨φ1,us,H1,aC,h2,h3,h8,h4⟩:=lJ ho offs cs _ φ H nx hH bW hcs h
      refine⟨φ1,.agg ⟨us⟩,H1,aC,h2,h4,by rw[<- hxs];exact h8,λj v v' hj hc=>h3.at_ j v v' hj ?_⟩
      have hjl:j<us.length:=(List.getElem?_eq_some_iff.1 hj).1
      have hxs':cs.length=s:=hxs
      rw[List.getElem?_take,if_pos (by omega),List.getElem?_drop,Array.getElem?_toList]
      exact hc
    . have e:j1 one offs x H nx (λv H nx=>j2 (j1 one offs) es H nx λl H nx=>g (v::l) H nx)=j2 (j1 one offs) es H nx λl H nx=>g (x::l) H nx:=by
       cases x<;>first | rfl | exact absurd ⟨_,rfl⟩ hag
      rw[e]at h
      exact⟨φ,x,H,nx,h,.refl hH bW,hxs,hx0⟩
   obtain⟨φ1,u,H1,aC,h2,h4,hu,hu'⟩:=step
   obtain⟨φ2,us,H2,nx2,h5,h6,h8,h7⟩:=qO ho offs es (o+s) φ1 H1 aC h4.2.1 h4.2.2.1 ⟨λy hy=>hl.1 y (by simp[hy]),λi j y v v' hi hj hc=>(hl.2 (i+1) j y v v' hi hj (by rw[Nat.add_mul,Nat.one_mul];rw[<- hc];congr 1;omega)).mono h4.1⟩ (by omega) h2
   refine⟨φ2,u::us,H2,nx2,h5,⟨λy hy=> ?_,λi j y v v' hi hj hc=> ?_⟩,by rw[List.length_cons,h8,List.length_cons],h4.trans h7⟩
   . rcases List.mem_cons.1 hy with rfl | hy
     . exact hu
     . exact h6.1 y hy
   . cases i with
     | zero=>
       cases hi
       rw[Nat.zero_mul,Nat.add_zero]at hc
       exact(hu' j v v' hj hc).mono h7.1
     | succ i=>
       refine h6.2 i j y v v' hi hj ?_
       rw[Nat.add_mul,Nat.one_mul]at hc
       rw[<- hc];congr 1;omega
theorem lK:∀(d:Nat) (t:TypeId),Fa P W O w (jL P d t)
 | 0,t=>λv v' φ H nx r hH bW hv g h=>jl hH bW hv h
 | d+1,t=>λv v' φ H nx r hH bW hv g h=>by
   obtain⟨φ1,u,H1,aC,h1,h2,h3⟩:=jl hH bW hv (show(eH P t v H nx λu H nx=>bif wT v then(match P.underlying t with | some (.slice e)=>gr u (λs es=>j2 (j1 (jL P d) (dL P 4 e)) es H nx λes H nx=>bif es.all λx=>Nat.beq x.cells.toList.length s then g (bc s es) H nx else .bad) .bad | _=>g u H nx)else g u H nx).run O=some r from h)
   cases hb:wT v with
   | false=>
     rw[hb]at h1
     exact⟨φ1,u,H1,aC,h1,h2,h3⟩
   | true=>
     rw[hb,cond_true]at h1
     split at h1
     . rename_i e _
       obtain⟨s,es,rfl,h4⟩:∃s es,u=bc s es/\(j2 (j1 (jL P d) (dL P 4 e)) es H1 aC λes H nx=>bif es.all λx=>Nat.beq x.cells.toList.length s then g (bc s es) H nx else .bad).run O=some r:=by
        unfold gr at h1
        split at h1
        . exact⟨_,_,rfl,h1⟩
        . cases h1
       rcases h2.ib with⟨rfl,_⟩ | ⟨k,o,c',en,c,g1,g2,g3,g4,g5,g6,rfl⟩
       . exact⟨φ1,_,H1,aC,h4,h2,h3⟩
       . cases es with
         | nil=>exact⟨φ1,_,H1,aC,h4,h2,h3⟩
         | cons x es=>
           obtain⟨φ2,us,H2,nx2,k1,k2,k3,k4⟩:=qO (λt=>lK d t) _ (x::es) o φ1 H1 aC h3.2.1 h3.2.2.1 ⟨g3,g6⟩ (g4 (by simp)) h4
           obtain⟨k5,k6⟩:=kL k1
           refine⟨φ2,_,H2,nx2,k6,?_,h3.trans k4⟩
           rw[<- k3]
           exact VR.row (k4.1 _ _ g1) g2 k2.1 (λ_=>by rw[k3];exact g4 (by simp)) (by rw[k3];exact g5) k2.2
     . exact⟨φ1,u,H1,aC,h1,h2,h3⟩
theorem zn (hH:HR P W φ (hp H) w)(bW:φ.length=nx){t:TypeId}{v v':Value}(hv:VR φ v v'){g:Value->T OB->Nat->Q}(h:(aW P t v H nx g).run O=some r):
 ∃φ' u H' nx',(g u H' nx').run O=some r/\VR φ' u v'/\fJ P W φ H nx w φ' H' nx':=by
 unfold aW at h
 cases hb:lA v with
 | false=>
   rw[hb]at h
   exact lK 100000 t v v' φ H nx r hH bW hv h
 | true=>
   rw[hb,cond_true]at h
   cases v<;>first | cases hb | skip
   rename_i cs
   obtain⟨cs⟩:=cs
   obtain⟨c',rfl,h1⟩:=hv.kJ
   obtain⟨φ',us,H',nx',h2,h3,_,h4⟩:=lJ (λt=>lK 100000 t) _ _ _ _ _ _ hH bW h1 h
   exact⟨φ',_,H',nx',h2,h3.agg,h4⟩
theorem lL (ts:Array TypeId):∀(l:List Nat) (vs vs':List Value) (φ:cA) (H:T OB) (nx:Nat),HR P W φ (hp H) w->φ.length=nx->LR φ vs vs'->∀{g:List Value->T OB->Nat->Q},(wU P ts l vs H nx g).run O=some r->
 ∃φ' us H' nx',(g us H' nx').run O=some r/\LR φ' us vs'/\fJ P W φ H nx w φ' H' nx'
 | [],cs,cs',φ,H,nx,hH,bW,hl,g,h=>⟨φ,cs,H,nx,h,hl,.refl hH bW⟩
 | i::l,cs,cs',φ,H,nx,hH,bW,hl,g,h=>by
   have go:∀(m:Nat) (t:TypeId) (v v':Value),cs[m]? = some v->cs'[m]? = some v'->(∃φ1 u H1 aC,(wU P ts l (cs.set m u) H1 aC g).run O=some r/\VR φ1 u v'/\fJ P W φ H nx w φ1 H1 aC)->
    ∃φ' us H' nx',(g us H' nx').run O=some r/\LR φ' us cs'/\fJ P W φ H nx w φ' H' nx':=by
    intro m t v v' hv hv' ⟨φ1,u,H1,aC,h2,h3,h4⟩
    have hl1:LR φ1 (cs.set m u) cs':=by
     have:=(hl.mono h4.1).set m h3
     have e:cs'.set m v'=cs':=by
      refine List.ext_getElem? λj=> ?_
      rw[List.getElem?_set]
      by_cases hi:m=j
      . subst hi;rw[if_pos rfl,hv',if_pos (List.getElem?_eq_some_iff.1 hv').1]
      . rw[if_neg hi]
     rw[e]at this
     exact this
    obtain⟨φ2,us,H2,nx2,h5,h6,h7⟩:=lL ts l _ cs' φ1 H1 aC h4.2.1 h4.2.2.1 hl1 h2
    exact⟨φ2,us,H2,nx2,h5,h6,h4.trans h7⟩
   have h:(bif Nat.ble 1000 i then aa ts[i-1000]? (λt=>aa cs[i-1000]? (λv=>aW P t v H nx λv H nx=>wU P ts l (cs.set (i-1000) v) H nx g) .bad) .bad else
    aa ts[i]? (λt=>aa cs[i]? (λv=>dK P t v H nx λv H nx=>wU P ts l (cs.set i v) H nx g) .bad) .bad:Q).run O=some r:=h
   cases hb:Nat.ble 1000 i with
   | true=>
     rw[hb,cond_true]at h
     obtain⟨t,_,h0⟩:=bH h
     obtain⟨v,hv,h1⟩:=bH h0
     obtain⟨v',hv',hvr⟩:=hl.get hv
     exact go _ t v v' hv hv' (zn hH bW hvr h1)
   | false=>
     rw[hb,cond_false]at h
     obtain⟨t,_,h0⟩:=bH h
     obtain⟨v,hv,h1⟩:=bH h0
     obtain⟨v',hv',hvr⟩:=hl.get hv
     exact go _ t v v' hv hv' (zm hH bW hvr h1)
def S2 (tmps:Array Value):ResultVar->Sem Value
 | .tmp t=>pure (tmps.getD t undef)
 | .cell a t=>do loadVar t (<- asAddr (tmps.getD a undef))
theorem lM (hH:HR P W φ (hp H) w)(htr:xp φ (λ_=>False) tm tmps):∀(l:List ResultVar) {g:List Value->Q},(DQ P H tm l g).run O=some r->
 ∃vs vs',(g vs).run O=some r/\LR φ vs vs'/\(l.mapM (S2 tmps)).run P w= .ok vs' w
 | [],g,h=>⟨[],[],h,.nil,rfl⟩
 | .tmp t::l,g,h=>by
   obtain⟨v,hv,h1⟩:=bH (show(aa (tm.get (bits t)) (λv=>DQ P H tm l λvs=>g (v::vs)) .bad).run O=some r from h)
   obtain⟨us,us',h2,h3,h4⟩:=lM hH htr l h1
   obtain⟨v',h5,h6⟩:=(htr t v hv).resolve_left id
   refine⟨v::us,v'::us',h2,.cons h6 h3,?_⟩
   have e:tmps.getD t undef=v':=by simp[Array.getD_eq_getD_getElem?,h5]
   simp only[List.mapM_cons,S2,Sem.run_bind,Sem.run_pure,Result.andThen_ok,e,h4]
 | .cell a t::l,g,h=>by
   obtain⟨v,hv,h1⟩:=bH (show(aa (ae P H t (tm.get (bits a))) (λv=>DQ P H tm l λvs=>g (v::vs)) .bad).run O=some r from h)
   obtain⟨us,us',h2,h3,h4⟩:=lM hH htr l h1
   cases ha:tm.get (bits a)with
   | none=>rw[ha]at hv;cases hv
   | some pv=>
     rw[ha]at hv
     obtain⟨pv',h5,h6⟩:=(htr a pv ha).resolve_left id
     obtain⟨v',ad,h7,h8,h9⟩:=l_ hH (y:=pv') (λu hu=>by cases hu;exact h6) hv
     subst h7
     refine⟨v::us,v'::us',h2,.cons h8 h3,?_⟩
     have e1:tmps.getD a undef= .pointer (some ad):=by simp[Array.getD_eq_getD_getElem?,h5]
     simp only[List.mapM_cons,S2,Sem.run_bind,e1,asAddr,Sem.run_pure,Result.andThen_ok,h9,h4]
theorem IY {vs vs':List Value}(h:LR φ vs vs'):VR φ (QC vs) (if h:vs'.toArray.size=1 then vs'.toArray[0]else .tuple vs'.toArray):=by
 cases vs with
 | nil=>cases h.kI;exact .flat _ rfl
 | cons a l=>
   obtain⟨a',l',rfl,h4,h5⟩:=h.inv
   cases l with
   | nil=>cases h5.kI;exact h4
   | cons b m=>
     obtain⟨b',m',rfl,_,_⟩:=h5.inv
     rw[dif_neg (by simp)]
     exact h.tuple
theorem fJ.fin (h:fJ P W φ H nx w φ' H' nx'){rc:Bool}(h':c_ P W kd fn lo cs0 rc φ' H' r fr w):c_ P W kd fn lo cs0 rc φ H r fr w:=
 h'.steps (.refl _ _) h.1 λk _ q=>h.2.2.2.1 k q
theorem IZ {pl:jf}(hH:HR P W φ (hp H) w)(bW:φ.length=nx)(hkd:c.kd=kd)(hfn:c.fn=fn)(htr:xp φ (λ_=>False) tm tmps)(h:(M3 P pl c tm H nx).run O=some r):
 c_ P W kd fn lo cs0 c.rc φ H r { dp (cq c []) tmps todo with mode:= .returning } w:=by
 unfold M3 at h
 obtain⟨fd,hfd,h1⟩:=bH h
 obtain⟨vs,vs',h2,h3,h4⟩:=lM hH htr _ h1
 obtain⟨φ',us,H',nx',h5,h6,h7⟩:=lL fd.resultTypes _ _ _ φ H nx hH bW h3 h2
 have h5:=oP h5
 subst h5
 have h8:(results fd tmps).run P w= .ok (if h:vs'.toArray.size=1 then vs'.toArray[0]else .tuple vs'.toArray) w:=by
  have e:results fd tmps=(do let vs <- fd.results.mapM (S2 tmps);pure (if h:vs.size=1 then vs[0]else .tuple vs)):=rfl
  rw[e,Sem.run_bind,Array.mapM_eq_mapM_toList,Sem.run_map,h4]
  rfl
 refine h7.fin ⟨φ',w,_,.refl _ _,φ'.le_refl,h7.2.1,h7.2.2.1,λk _ q=>⟨q,rfl⟩,?_,?_,_,IY h6,rfl,rfl,fd,?_,h8⟩
 . show kindOf c.kd=kindOf kd;rw[hkd]
 . exact hfn
 . exact hfd
end
section
variable {P:Program}{W w w' w1:World}{f fn:FuncId}{cs cs0:List Frame}{r r1:Rt}{fr fr' fr1:Frame}{φ φ' φ1:cA}{H H' H1:T OB}{nx nx' aC nt lo hi:Nat}{tm:T Value}{tmps:Array Value}{ops:Array Oper}
 {todo k:List Item} {c:Cg} {ds:List Deferred} {kd:Bool} {O:bE->Option Rt} {pl:jf}
structure Fx (P:Program)(W:World)(lo:Nat)(cs0:List Frame)(c:Cg)(φ:cA)(H:T OB)(nx:Nat)(tmps:Array Value)(ds:List Deferred)(w:World):Prop where
 hH:HR P W φ (hp H) w
 bW:φ.length=nx
 j5:lo<=nx
 j4:tmps.size=c.nt
 uh:LC P φ c.df ds
 qy:zj φ c.kd c.rp c.rc cs0
def mq (P:Program)(W:World)(c:Cg)(tm:T Value)(todo:List Item)(H:T OB)(nx:Nat)(r:Rt):Prop:=
 ∀φ w lo tmps ds cs0,Fx P W lo cs0 c φ H nx tmps ds w->xp φ (λ_=>False) tm tmps->c_ P W c.kd c.fn lo cs0 c.rc φ H r (dp (cq c ds) tmps todo) w
def Nn (P:Program)(W:World)(f:FuncId)(args:List Value)(kd:Bool)(rp:Option Value)(H:T OB)(nx:Nat)(r:Rt):Prop:=
 ∀φ w args' cs0,HR P W φ (hp H) w->φ.length=nx->LR φ args args'->zj φ kd rp false cs0->c_ P W kd f nx cs0 false φ H r (Frame.enter P f args'.toArray (kindOf kd)) w
def Fb (P:Program)(W:World)(q:bE)(r:Rt):Prop:=match q with
 | .call f args kd rp H nx=>Nn P W f args kd rp H nx r
 | .at c tm todo H nx=>mq P W c tm todo H nx r
def jH (P:Program)(W:World)(O:bE->Option Rt):Prop:=∀q r,O q=some r->Fb P W q r
def AH (P:Program)(W:World)(O:bE->Option Rt)(K:Kt)(todo:List Item):Prop:=∀c tm H nx r,(K c tm H nx).run O=some r->mq P W c tm todo H nx r
theorem mq.step1 {todo':List Item}(hs:∀(ds:List Deferred) (tmps:Array Value) (cs:List Frame) (w:World),Steps P (lone (dp (cq c ds) tmps todo) cs w) (lone (dp (cq c ds) tmps todo') cs w))(h:mq P W c tm todo' H nx r):
 mq P W c tm todo H nx r:=λφ w lo tmps ds cs0 x htr=>(h φ w lo tmps ds cs0 x htr).step1 (hs _ _ _ _)
theorem xB (hk:∀k,k<φ.length->φ[k]? = some none->φ'[k]? = some none/\hp H' k=hp H k):eP φ φ' (hp H) (hp H'):=λk q=>hk k (List.getElem?_eq_some_iff.1 q).1 q
inductive S3 (φ:cA):Mq->Option Value->Prop
 | ret:S3 φ .ret none
 | fR {v v':Value} (h:VR φ v v'):S3 φ (.fR v) (some v')
theorem D9 (m:Option Value):fI m ≠ .run:=by cases m<;>simp[fI]
theorem oR (hO:jH P W O):∀(l:List (FuncId×List Value)) (m:Mq) (mv:Option Value) (φ:cA) (H:T OB) (nx:Nat) (ds:List Deferred) (w:World),HR P W φ (hp H) w->φ.length=nx->lo<=nx->LC P φ l ds->S3 φ m mv->
 xp φ (λ_=>False) tm tmps->(l6 P pl c tm l m H nx).run O=some r->c_ P W c.kd c.fn lo cs0 c.rc φ H r { dp (cq c ds) tmps todo with mode:=fI mv } w
 | [],m,mv,φ,H,nx,ds,w,hH,bW,j5,uh,hm,htr,h=>by
   cases uh
   have h:(yU P pl c tm m H nx).run O=some r:=h
   unfold yU at h
   cases hm with
   | ret=>exact IZ hH bW rfl rfl htr h
   | @fR v v' hv=>
     obtain⟨fd,hfd,h⟩:=bH h
     have h:=oP h
     subst h
     exact⟨φ,w,_,.refl _ _,φ.le_refl,hH,bW,λk _ q=>⟨q,rfl⟩,rfl,rfl,v',hv,rfl,rfl,fd,hfd⟩
 | (g,args)::l,m,mv,φ,H,nx,ds,w,hH,bW,j5,uh,hm,htr,h=>by
   cases uh with
   | @cons _ d' _ ds' hd hl=>
     obtain⟨a',cap',rfl,hLR,hok⟩:=hd
     obtain⟨r1,h1,h2⟩:=mn (show(Q.ask (.call g args true (M1 m) H nx) λr=>QD m r (l6 P pl c tm l)).run O=some r from h)
     have hinv:(invoke (.fn (.func g) ⟨cap'⟩) a').run P w= .ok (.enter g (a'++⟨cap'⟩)) w:=ml hok _ _
     have e:(a'++⟨cap'⟩:Array Value)=(a'.toList++cap').toArray:=Array.ext' (by simp)
     have hst:=step_defer (P:=P) (fr:={ dp (cq c ({ target:= .fn (.func g) ⟨cap'⟩,args:=a' }::ds')) tmps todo with mode:=fI mv }) (cs:=dY c.rc cs0) (D9 mv) rfl rfl hinv
     rw[e]at hst
     have hrcv:zj φ true (M1 m) false ({ dp (cq c ds') tmps todo with mode:=fI mv }::dY c.rc cs0):=λ_=>by
      cases hm with
      | ret=>exact λF hF=>(gJ (C:={ dp (cq c ds') tmps todo with mode:=fI none }) (cs:=dY c.rc cs0) hF).trans rfl
      | fR hv=>exact⟨rfl,_,_,_,[],rfl,rfl,hv⟩
     obtain⟨φ1,w1,frl,s1,hle,hH1,hl1,hk1,hkk,hff,ho1⟩:=hO _ _ h1 φ w _ _ hH bW hLR hrcv
     unfold QD at h2
     cases hr1:r1.o with
     | fR v=>rw[hr1]at h2;cases h2
     | ret v=>
       rw[hr1]at h2 ho1
       obtain⟨v',hv',hgo⟩:=ho1
       have h2:(l6 P pl c tm l (bK r1.rc .ret m) r1.H r1.nx).run O=some r:=h2
       have hlen:=qM hle (xB (λk hk q=>hk1 k (by rw[<- bW];exact hk) q))
       have back:∃mv1,S3 φ1 (bK r1.rc .ret m) mv1/\Steps P (lone frl (dY r1.rc ({ dp (cq c ds') tmps todo with mode:=fI mv }::dY c.rc cs0)) w1) (lone { dp (cq c ds') tmps todo with mode:=fI mv1 } (dY c.rc cs0) w1):=by
        cases qy:r1.rc with
        | false=>
          cases hm with
          | ret=>exact⟨none,.ret,.one (step_going_returned (c:={ dp (cq c ds') tmps todo with mode:=fI none }) hkk hgo)⟩
          | fR hv=>exact⟨some _,.fR (hv.mono hle),.one (step_going_returned (c:={ dp (cq c ds') tmps todo with mode:=fI (some _) }) hkk hgo)⟩
        | true=>
          refine⟨none,.ret,?_⟩
          cases hm with
          | ret=>exact .one (step_going_returned (c:={ dp (cq c ds') tmps todo with mode:=fI none }) hkk hgo)
          | @fR u u' hv=>exact .one (step_going_returned (c:={ dp (cq c ds') tmps todo with mode:= .panicking [{ v:=u',recovered:=true }] }) hkk hgo)
       obtain⟨mv1,hm1,hs1⟩:=back
       have ih:=oR hO l (bK r1.rc .ret m) mv1 φ1 r1.H r1.nx ds' w1 hH1 hl1 (by omega) (hl.mono hle) hm1 (htr.mono hle) h2
       exact ih.steps (.head hst (s1.trans hs1)) hle λk hk q=>hk1 k (by omega) q
theorem nu (hO:jH P W O)(ht:todo=[]\/∃k,todo= .code .ret::k):AH P W O (tV P pl) todo:=λc tm H nx r h φ w lo tmps ds cs0 x htr=>by
 have hs:Steps P (lone (dp (cq c ds) tmps todo) (dY c.rc cs0) w) (lone { dp (cq c ds) tmps todo with mode:=fI none } (dY c.rc cs0) w):=by
  rcases ht with rfl | ⟨k,rfl⟩
  . exact .one (step_end (b:=dp (cq c ds) #[] []) (a:=⟨tmps,ds⟩))
  . exact .one (step_ret (b:=dp (cq c ds) #[] []) (a:=⟨tmps,ds⟩))
 exact(oR hO c.df .ret none φ H nx ds w x.hH x.bW x.j5 x.uh .ret htr h).step1 hs
theorem AI (hO:jH P W O){g:FuncId}{args args':List Value}(h1:O (.call g args false none H nx)=some r1)(hH:HR P W φ (hp H) w)(bW:φ.length=nx)(hLR:LR φ args args'){C:Frame}(hC:C.mode= .run)(cs:List Frame):
 ∃φ1 w1,φ.le φ1/\HR P W φ1 (hp r1.H) w1/\φ1.length=r1.nx/\eP φ φ1 (hp H) (hp r1.H)/\nx<=r1.nx/\(match r1.o with
  | .ret v=>∃v',VR φ1 v v'/\Steps P (lone (Frame.enter P g args'.toArray .normal) (C::cs) w) (lone (C.finish v') cs w1)
  | .fR v=>∃v',VR φ1 v v'/\Steps P (lone (Frame.enter P g args'.toArray .normal) (C::cs) w) (lone { C with mode:=fI (some v') } cs w1)):=by
 have hC':∀l,C.mode ≠ .panicking l:=λl q=>by rw[hC]at q;cases q
 obtain⟨φ1,w1,frl,s1,hle,hH1,hl1,hk1,hkk,hff,ho1⟩:=hO _ _ h1 φ w _ (C::cs) hH bW hLR (λq=>by cases q)
 have hkeep:eP φ φ1 (hp H) (hp r1.H):=xB (λk hk q=>hk1 k (by rw[<- bW];exact hk) q)
 rw[xA _ hC',xA _ hC']at s1
 refine⟨φ1,w1,hle,hH1,hl1,hkeep,by have:=qM hle hkeep;omega,?_⟩
 cases hr1:r1.o with
 | ret v=>
   rw[hr1]at ho1
   obtain⟨v',hv',hgo⟩:=ho1
   refine⟨v',hv',s1.trans (.one (step_leave_returned ?_))⟩
   obtain⟨a,b,c⟩:=hgo
   exact⟨a,b,hkk,c⟩
 | fR v=>
   rw[hr1]at ho1
   obtain⟨v',hv',hgo⟩:=ho1
   refine⟨v',hv',s1.trans (.one ?_)⟩
   have:=step_going_panicked (c:=C) (cs:=cs) hgo
   rw[show raised C.mode [{ v:=v',recovered:=false }]=fI (some v')from by rw[hC];rfl]at this
   exact this
theorem ui {fb:FB}{o:Oper}{i:Nat}{rest:List Nat}{v:Value}(ho:ops[i]? = some o)(hw:Region.wanted o (yielded ops tmps)=true)
 (he:iy P W φ H w ((execOp (dG tmps) o).run P w) v H' nx'):
 ∃φ' v' w',step P (lone (dp fb tmps (.inRegion ops (i::rest)::k)) cs w)= .next (lone (dp fb (iM tmps o.dst v') (.inRegion ops rest::k)) cs w')/\
  VR φ' v v'/\φ.le φ'/\HR P W φ' (hp H') w'/\φ'.length=nx'/\eP φ φ' (hp H) (hp H'):=by
 obtain⟨φ',v',w',x,hr,hx,h1,h2,h3,h4,h5⟩:=he
 refine⟨φ',v',w',?_,h1,h2,h3,h4,h5⟩
 rcases hx with rfl | ⟨rfl,rfl⟩
 . exact eF ho hw hr
 . exact qG ho hw hr
theorem Fc {l:List Operand}:∀t,Operand.tmp t∈l->¬(λ(_:Nat)=>False) t:=λ_ _ h=>h
theorem Fx.next (x:Fx P W lo cs0 c φ H nx tmps ds w)(hle:φ.le φ')(hH:HR P W φ' (hp H') w')(hl:φ'.length=nx')(hn:nx<=nx'){tmps':Array Value}(j4:tmps'.size=tmps.size):Fx P W lo cs0 c φ' H' nx' tmps' ds w':=
 ⟨hH,hl,Nat.le_trans x.j5 hn,j4.trans x.j4,x.uh.mono hle,x.qy.mono hle⟩
theorem xp.refine {M:Nat->Prop}(h:xp φ M tm tmps){d:Tmp}{v v':Value}(hd:tmps[d]? = some v')(hv:VR φ v v'):xp φ M (cv tm (some d) v) tmps:=λt u q=>by
 rw[fp]at q
 split at q
 . rename_i e
   cases e
   cases q
   exact .inr ⟨v',hd,hv⟩
 . exact h t u q
theorem Fe (hH:HR P W φ (hp H) w)(bW:φ.length=nx){o:Oper}{e:TypeId}{x:Operand}(ho:o.op= .box e x)(hE:∀v,bz P tm x=some v->VR φ v (dG tmps x)){u:Value}(hu:bz P tm x=some u):
 ∃φ' v' w',(execOp (dG tmps) o).run P w= .ok (.value v') w'/\VR φ' (aj u) v'/\φ.le φ'/\HR P W φ' (hp H) w'/\φ'.length=nx+1/\eP φ φ' (hp H) (hp H):=by
 have hc:=(hE u hu).cells
 have hb:Below w.heap.size w (w.alloc (.cells (dG tmps x).cells e)):=(Below.refl w.heap.size w).alloc (Nat.le_refl _) _
 refine⟨φ++[some ⟨w.heap.size,0,0,some (dG tmps x).cells⟩],.pointer (some ⟨w.heap.size,0,none⟩),w.alloc (.cells (dG tmps x).cells e),?_,?_,cI φ _,?_,by simp[bW],?_⟩
 . simp[execOp,ho,Instr.box,newVar,newRow]
 . refine VR.ep (e:=⟨w.heap.size,0,0,some (dG tmps x).cells⟩) (eE φ _) rfl (by rw[hc.len];simp) (λj a b ha hb=> ?_)
   rw[Nat.zero_add]at hb
   exact(hc.at_ j a b ha (by simpa using hb)).mono (cI φ _)
 . refine(hH.grown hb).ghost (el:=e) (fz:=(0,0)) rfl (Go.heap_alloc_new w _) (λk y ob hk _ _ q=> ?_)
   have:=hH.m7 k y hk
   have q:y.r=w.heap.size:=q
   omega
 . intro k hk
   refine⟨?_,rfl⟩
   rw[List.getElem?_append_left (List.getElem?_eq_some_iff.1 hk).1];exact hk
theorem zo (hH:HR P W φ (hp H) w)(bW:φ.length=nx){o:Oper}{t:TypeId}{d:Tmp}{x:Operand}(ho:o.op= .store t (.tmp d) x)(hE:m8 P φ tm (dG tmps) [.tmp d,x]){b n s:Nat}{tr:T Value}{el:TypeId}{u:Value}
 (ha:bz P tm (.tmp d)=some (.pointer (some ⟨b,0,none⟩))) (hu:bz P tm x=some u) (hg:H.get (bits b)=some (.cells n tr el)) (hs:bh P t=some s) (hn:n=s) (hl:u.cells.toList.length=s) (hone:u.cells.toList.all ax=true):
 ∃φ' v' w' y,(execOp (dG tmps) o).run P w= .ok y w'/\(y= .value v'\/(y= .skip/\v'=undef))/\v'=undef/\VR φ' (aj u) (dG tmps (.tmp d))/\φ.le φ'/\HR P W φ' (hp (set H (bits b) (some .dead))) w'/\φ'.length=nx+1/\eP φ φ' (hp H) (hp (set H (bits b) (some .dead))):=by
 subst hn
 have hef:ai P H nx t (bz P tm (.tmp d)) (bz P tm x)= .val undef (set H (bits b) (some (.cells n (ej u.cells.toList 0 tr) el))) nx:=by
  rw[ha,hu]
  show dJ (H.get (bits b)) (λn tr e=>aa (bh P t) (λs=>bif Nat.beq u.cells.toList.length s&&Nat.ble (0+s) n&&u.cells.toList.all ax then
   eA u.cells.toList 0 tr λtr=>da (bits b) H (some (.cells n tr e)) λH=>eC.val undef H nx else .bad) .bad) .bad=_
  rw[hg]
  show aa (bh P t) (λs=>bif Nat.beq u.cells.toList.length s&&Nat.ble (0+s) n&&u.cells.toList.all ax then
   eA u.cells.toList 0 tr λtr=>da (bits b) H (some (.cells n tr el)) λH=>eC.val undef H nx else .bad) .bad=_
  rw[hs,aJ,hl,hone,cW,a_]
  have e1:Nat.beq n n=true:=Nat.beq_refl n
  have e2:Nat.ble (0+n) n=true:=by rw[Nat.zero_add];exact Nat.ble_eq_true_of_le (Nat.le_refl n)
  rw[e1,e2]
  rfl
 obtain⟨φ1,v',w1,y,hr,hy,h1,h2,h3,h4,h5⟩:=xd hH bW ho hE hef
 obtain⟨en,hb,_,hp1⟩:=(hE (.tmp d) (by simp) _ ha).ek
 have hb1:=h2 b en hb
 have hg1:hp (set H (bits b) (some (.cells n (ej u.cells.toList 0 tr) el))) b=some (.cells n (ej u.cells.toList 0 tr) el):=by rw[bB,cK]
 obtain⟨c,el',hrow,hrsz,hrn,qy⟩:=h3.cells hg1 hb1
 have hk:=h3.kill hg1 hb1
 rw[bB,mf,<- bB]at hk
 have hgh:=hk.ghost (e:=⟨en.r,en.sz,en.es,some c⟩) rfl hrow (λk x ob hk' hgk hlk hr=>by
  rw[bB]at hgk
  by_cases hkb:k=b
  . subst hkb;rw[cK]at hgk;cases hgk;cases hlk
  . rw[aY _ hkb]at hgk
    exact hkb (h3.inj k b _ _ x en hk' hb1 (by rw[bB,aY _ hkb];exact hgk) hg1 hlk rfl hr))
 refine⟨_,v',w1,y,hr,hy,h1.aG rfl,?_,cA.le_trans h2 (cI φ1 _),hgh,by simp[h4],?_⟩
 . rw[hp1]
   refine VR.ep (e:=⟨en.r,en.sz,en.es,some c⟩) (c:=c) (eE φ1 _) rfl (by rw[hl];omega) (λj a b' hja hjb=> ?_)
   have hjl:j<u.cells.toList.length:=(List.getElem?_eq_some_iff.1 hja).1
   obtain⟨a',g1,g2⟩:=qy j (by omega) a (by rw[dr,if_pos (by omega),Nat.sub_zero];exact hja)
   rw[Nat.zero_add,g1]at hjb
   cases hjb
   exact g2.mono (cI φ1 _)
 . intro k hk'
   obtain⟨q1,q2⟩:=h5 k hk'
   refine⟨?_,?_⟩
   . rw[List.getElem?_append_left (List.getElem?_eq_some_iff.1 q1).1];exact q1
   . rw[bB,aY]
     intro q;subst q;rw[hb]at hk';cases hk'
theorem Ff {o:Oper}(h:II pl fn o=true):(∃e x,o.op= .box e x)\/∃t d x,o.op= .store t (.tmp d) x:=by
 unfold II at h
 split at h
 . rename_i e x ho;exact .inl ⟨e,x,ho⟩
 . rename_i t d x ho;exact .inr ⟨t,d,x,ho⟩
 . cases h
theorem kb (hO:jH P W O){K:Kt}(hK:AH P W O K k):∀l:List Nat,AH P W O (lj P pl ops K l) (.inRegion ops l::k)
 | [],c,tm,H,nx,r,h=>(hK c tm H nx r h).step1 λds tmps cs w=> .one (step_region_end (b:=dp (cq c ds) #[] []) (a:=⟨tmps,ds⟩))
 | i::rest,c,tm,H,nx,r,h=>λφ w lo tmps ds cs0 x htr=>by
   obtain⟨o,ho,h⟩:=bH (show(Ev.aa ops[i]? (Ta P pl ops c tm H nx (lj P pl ops K rest)) .bad).run O=some r from h)
   unfold Ta at h
   obtain⟨b,hb,hy,hn⟩:=ta h
   have hw:Region.wanted o (yielded ops tmps)=b:=np htr (λ_ _ _ _ h=>h) hb
   have hE:m8 P φ tm (dG tmps) o.op.operands.toList:=uf x.hH.gl htr Fc
   have next:∀{φ':cA} {H':T OB} {nx':Nat} {w':World} {v v':Value},
    Steps P (lone (dp (cq c ds) tmps (.inRegion ops (i::rest)::k)) (dY c.rc cs0) w) (lone (dp (cq c ds) (iM tmps o.dst v') (.inRegion ops rest::k)) (dY c.rc cs0) w')->
    φ.le φ'->HR P W φ' (hp H') w'->φ'.length=nx'->nx<=nx'->eP φ φ' (hp H) (hp H')->VR φ' v v'->((∀d,o.dst=some d->d<c.nt)/\(lj P pl ops K rest c (cv tm o.dst v) H' nx').run O=some r)->
    c_ P W c.kd c.fn lo cs0 c.rc φ H r (dp (cq c ds) tmps (.inRegion ops (i::rest)::k)) w:=λhs hle hH' hl hn hkp hv hq=>by
    obtain⟨hd,hq⟩:=hq
    have hd':∀d,o.dst=some d->d<tmps.size:=λd h=>by rw[x.j4];exact hd d h
    exact c_.steps hs hle (λk _ q=>hkp k q) (kb hO hK rest _ _ _ _ _ hq _ _ _ _ ds cs0 (x.next hle hH' hl hn (d_ ..)) ((htr.mono hle).put hd' hv λt h _=>h))
   cases b with
   | false=>exact next (.one (qH ho hw)) φ.le_refl x.hH x.bW (Nat.le_refl _) (eP.refl _ _) (.flat undef rfl) (cU (hn rfl))
   | true=>
     have h:=hy rfl
     unfold U5 at h
     rcases ec h with⟨hrd,h⟩ | ⟨hrd,h⟩
     . obtain⟨v,hv,h⟩:=bH h
       obtain⟨v',h1,h2⟩:=qu x.hH hE hv
       exact next (.one (eF ho hw h2)) φ.le_refl x.hH x.bW (Nat.le_refl _) (eP.refl _ _) h1 (mo h)
     . rcases ec h with⟨hct,h⟩ | ⟨hct,h⟩
       . cases he:ef P H nx tm o with
         | bad=>rw[he]at h;cases h
         | val v H' nx'=>rw[he]at h;cases h
         | call g args=>
           rw[he]at h
           obtain⟨args',h1,hok,h2⟩:=AE hE he
           obtain⟨r1,h3,h4⟩:=mn (show(Q.ask (.call g args false none H nx) _).run O=some r from h)
           obtain⟨φ1,w1,hle,hH1,hl1,hkp,hn1,ho1⟩:=AI hO h3 x.hH x.bW h1 (C:=dp (cq c ds) tmps (.inRegion ops (i::rest)::k)) rfl (dY c.rc cs0)
           cases hr1:r1.o with
           | ret v=>
             rw[hr1]at ho1
             simp only[hr1]at h4
             obtain⟨v',hv',hs⟩:=ho1
             rw[lH ho]at hs
             exact next (.head (jk ho hw (h2 w)) hs) hle hH1 hl1 hn1 hkp hv' (mo h4)
           | fR v=>
             rw[hr1]at ho1
             simp only[hr1]at h4
             obtain⟨v',hv',hs⟩:=ho1
             exact(oR hO c.df (.fR v) (some v') φ1 r1.H r1.nx ds w1 hH1 hl1 (by have:=x.j5;omega) (x.uh.mono hle) (.fR hv') (htr.mono hle) h4).steps (.head (jk ho hw (h2 w)) hs) hle λk _ q=>hkp k q
         | Qm g args=>
           rw[he]at h
           obtain⟨d',h1,h2⟩:=Nh hE he
           obtain⟨hd,hq⟩:=cU (show(jd c.nt tm o.dst undef (λtm=>lj P pl ops K rest ⟨c.fn,c.nt,c.kd,(g,args)::c.df,c.rp,c.rc⟩ tm H nx) .bad).run O=some r from h)
           have hd':∀d,o.dst=some d->d<tmps.size:=λd h=>by rw[x.j4];exact hd d h
           have hx:Fx P W lo cs0 ⟨c.fn,c.nt,c.kd,(g,args)::c.df,c.rp,c.rc⟩ φ H nx (iM tmps o.dst undef) (d'::ds) w:=⟨x.hH,x.bW,x.j5,(d_ ..).trans x.j4,.cons h1 x.uh,x.qy⟩
           exact c_.step1 (.one (E4 ho hw (h2 w))) (kb hO hK rest _ _ _ _ _ hq _ _ _ _ _ _ hx (htr.put hd' (.flat _ rfl) λt h _=>h))
         | fR v=>
           rw[he]at h
           obtain⟨v',h1,h2⟩:=E1 hE he
           exact(oR hO c.df (.fR v) (some v') φ H nx ds w x.hH x.bW x.j5 x.uh (.fR h1) htr h).step1 (.one (xo ho hw (h2 w)))
         | Qn=>
           rw[he]at h
           have h:(QE c λc v=>jd c.nt tm o.dst v (λtm=>lj P pl ops K rest c tm H nx) .bad).run O=some r:=h
           have h2:=Ni (ρ:=dG tmps) he w
           have none':tryRecover (dp (cq c ds) tmps (.inRegion ops (i::rest)::k)) (dY c.rc cs0)=none->(jd c.nt tm o.dst .nilIface (λtm=>lj P pl ops K rest c tm H nx) .bad).run O=some r->
            c_ P W c.kd c.fn lo cs0 c.rc φ H r (dp (cq c ds) tmps (.inRegion ops (i::rest)::k)) w:=λht hq=>
            next (.one (su ho hw h2 ht)) φ.le_refl x.hH x.bW (Nat.le_refl _) (eP.refl _ _) (.flat .nilIface rfl) (cU hq)
           obtain⟨cfn,Qt,ckd,cdf,crp,crc⟩:=c
           have qy:zj φ ckd crp crc cs0:=x.qy
           cases ckd with
           | false=>exact none' (zk rfl) h
           | true=>
             have hk2:(dp (cq ⟨cfn,Qt,true,cdf,crp,crc⟩ ds) tmps (.inRegion ops (i::rest)::k)).kind= .deferred:=rfl
             have qy:=qy rfl
             cases crp with
             | none=>exact none' (qy _ hk2) h
             | some v=>
               obtain⟨q,C,rs,v',older,hcs,hC,hv⟩:=qy
               subst q hcs
               obtain⟨hd,hq⟩:=cU (show(jd Qt tm o.dst v (λtm=>lj P pl ops K rest ⟨cfn,Qt,true,cdf,none,true⟩ tm H nx) .bad).run O=some r from h)
               have j4:tmps.size=Qt:=x.j4
               have hd':∀d,o.dst=some d->d<tmps.size:=λd h=>by rw[j4];exact hd d h
               have ht:tryRecover (dp (cq ⟨cfn,Qt,true,cdf,some v,false⟩ ds) tmps (.inRegion ops (i::rest)::k)) (C::rs)=some (v',xz (C::rs)):=by
                rw[gJ hk2]
                unfold xz
                simp only[hC]
               have hx:Fx P W lo (C::rs) ⟨cfn,Qt,true,cdf,none,true⟩ φ H nx (iM tmps o.dst v') ds w:=⟨x.hH,x.bW,x.j5,(d_ ..).trans j4,x.uh,λ_ F hF=>E8 (cs:=C::rs) hF⟩
               exact c_.steps (rc1:=true) (.one (sw ho hw h2 ht)) φ.le_refl (λ_ _ q=>⟨q,rfl⟩) (kb hO hK rest _ _ _ _ _ hq _ _ _ _ _ _ hx (htr.put hd' hv λt h _=>h))
       . rcases ec h with⟨hfr,h⟩ | ⟨hfr,h⟩
         . rcases Ff hfr with⟨e,y,hop⟩ | ⟨t,d,y,hop⟩
           . unfold QH at h
             simp only[hop]at h
             obtain⟨u,hu,h⟩:=bH (show(aa (bz P tm y) (λv=>bF (Nat.succ nx) λn=>jd c.nt tm o.dst (aj v) (λtm=>lj P pl ops K rest c tm H n) .bad) .bad).run O=some r from h)
             rw[ba]at h
             obtain⟨φ',v',w',hs,h1,h2,h3,h4,h5⟩:=Fe x.hH x.bW hop (λv hv=>hE y (by rw[hop];simp[Op.operands]) v hv) hu
             exact next (.one (eF ho hw hs)) h2 h3 h4 (Nat.le_succ _) h5 h1 (cU h)
           . unfold QH at h
             simp only[hop]at h
             obtain⟨b,off,ha,h⟩:=E_ (show(At P c.nt tm H nx t d o.dst (bz P tm (.tmp d)) (bz P tm y) λtm H nx=>lj P pl ops K rest c tm H nx).run O=some r from h)
             obtain⟨u,hu,h⟩:=bH h
             obtain⟨n,tr,el,hg,h⟩:=zl h
             obtain⟨s,hs,h⟩:=bH h
             obtain⟨hc,hq⟩:=kL h
             rw[a_,ba]at hq
             simp only[Bool.and_eq_true]at hc
             have hn:=beq_eq hc.2.1
             have hl:=beq_eq hc.2.2.1
             obtain⟨hd,hq1⟩:=cU hq
             obtain⟨hd2,hq2⟩:=cU hq1
             have hoff:=beq_eq hc.1
             clear h hq hq1
             subst hoff
             obtain⟨φ',v',w',y',hr,hy',hv',h1,h2,h3,h4,h5⟩:=zo x.hH x.bW hop (by rw[hop]at hE;exact hE) ha hu hg hs hn hl hc.2.2.2
             have hst:step P (lone (dp (cq c ds) tmps (.inRegion ops (i::rest)::k)) (dY c.rc cs0) w)= .next (lone (dp (cq c ds) (iM tmps o.dst v') (.inRegion ops rest::k)) (dY c.rc cs0) w'):=by
              rcases hy' with rfl | ⟨rfl,rfl⟩
              . exact eF ho hw hr
              . exact qG ho hw hr
             have hdd:d<tmps.size:=by rw[x.j4];exact hd d rfl
             have hd2':∀e,o.dst=some e->e<tmps.size:=λe q=>by rw[x.j4];exact hd2 e q
             have htd:tmps[d]? = some (dG tmps (.tmp d)):=by
              rw[Array.getElem?_eq_getElem hdd]
              show _=some (tmps.getD d undef)
              simp[Array.getD,hdd]
             have ht1:=(htr.mono h2).refine htd h1
             refine c_.steps (.one hst) h2 (λk _ q=>h5 k q) (kb hO hK rest _ _ _ _ _ hq2 _ _ _ _ ds cs0 (x.next h2 h3 h4 (Nat.le_succ _) (d_ ..)) ?_)
             exact ht1.put hd2' (by rw[hv'];exact .flat undef rfl) λt h _=>h
         . obtain⟨v,H',nx',he,h⟩:=oQ h
           obtain⟨φ',v',w',hs,h1,h2,h3,h4,h5⟩:=ui (fb:=cq c ds) (k:=k) (cs:=dY c.rc cs0) (rest:=rest) ho hw (qz x.hH x.bW hE he)
           have hn:nx<=nx':=by have:=qM h2 h5;rw[x.bW,h4]at this;exact this
           exact next (.one hs) h2 h3 h4 hn h5 h1 (cU h)
theorem qP (hO:jH P W O){K:Kt}(hK:AH P W O K k):∀(l:List (Nat×List Nat)) (tm:T Value) (H:T OB) (nx:Nat) (φ:cA) (tmps:Array Value) (w:World) (π done iX:List Nat) (κ:Nat->Nat),
 (sL P pl ops K l c tm H nx).run O=some r->Fx P W lo cs0 c φ H nx tmps ds w->eY P φ H tm tmps ops done iX l π κ lo nx->j8 P H tm ops done π->c_ P W c.kd c.fn lo cs0 c.rc φ H r (dp (cq c ds) tmps (.inRegion ops π::k)) w
 | [],tm,H,nx,φ,tmps,w,π,done,iX,κ,h,x,hD,hL=>by
   obtain⟨φ',tmps',w',π',hs,hle,hH',hlen,hk,hD',_,hz,hn⟩:=qJ (fn:=cq c ds) (k:=k) (cs:=dY c.rc cs0) π φ tmps w x.hH hD hL
   have:=hD'.last hn
   subst this
   refine c_.steps (hs.trans (.one (step_region_end (b:=dp (cq c ds) #[] []) (a:=⟨tmps',ds⟩)))) hle (λk hk' q=>⟨hk k hk' q,rfl⟩) (hK c tm H nx r h _ _ _ _ ds cs0 (x.next hle hH' (hlen.trans x.bW) (Nat.le_refl _) hz) ?_)
   exact λt v hv=>(hD'.tr t v hv).imp (λ⟨p,hp,_⟩=>absurd hp List.not_mem_nil) id
 | (i,chk)::rest,tm,H,nx,φ,tmps,w,π,done,iX,κ,h,x,hD,hL=>by
   obtain⟨o,ho,hni,hrdy,hpr,hpe⟩:=ij hD.D6
   obtain⟨o',ho',h⟩:=bH (show(Ev.aa ops[i]? (Tc P pl ops chk c tm H nx (sL P pl ops K rest)) .bad).run O=some r from h)
   rw[ho]at ho'
   cases ho'
   unfold Tc at h
   obtain⟨b,hb,hy,hn0⟩:=ta h
   have j4:=x.j4
   have ahead:∀{φ':cA} {H':T OB} {nx':Nat} {κ':Nat->Nat} {u:Value},j0 (je ops) i o=true->(∀d,o.dst=some d->d<c.nt)->φ.le φ'->
    (∀k,k<nx->φ[k]? = some none->φ'[k]? = some none/\hp H' k=hp H k)->(∀p,p≠i->κ' p=κ p)->nx<=nx'->HR P W φ' (hp H') w->φ'.length=nx'->
    xr P φ' H' (cv tm o.dst u) ops κ' lo nx' i o->(p_ o.op=true->nx<=κ' i)->(∀k ob,hp H k=some ob->hp H' k=some ob)->
    (l5 o.op=true->bO (cv tm o.dst u) ops o=some true->rd P H' (cv tm o.dst u) o=some u)->
    (sL P pl ops K rest c (cv tm o.dst u) H' nx').run O=some r->c_ P W c.kd c.fn lo cs0 c.rc φ H r (dp (cq c ds) tmps (.inRegion ops π::k)) w:=by
    intro φ' H' nx' κ' u hc hd hle hk hκ hn hH' hl hprom hfresh hext hself hq
    have hna:i∉jF ops:=E5 λhm=>by
     have hm':(je ops).contains i=true:=by simpa using hm
     unfold j0 at hc
     rw[hm',Bool.not_true,Bool.and_false]at hc
     cases hc
    refine c_.steps (.refl _ _) hle (λk hk' q=>hk k (by have:=x.j5;omega) q) (qP hO hK rest _ H' nx' φ' tmps w π (i::done) _ κ' hq (x.next hle hH' hl hn rfl)
     (hD.take ho hna hni hrdy (hpr hc) (λp hp=> ?_) (λhl=> ?_) hle hk hκ hn (λd h=>by rw[j4];exact hd d h) hprom hfresh) (hL.take hD.sa hD.ready ho hna hni hext hself))
    . split
      . exact List.mem_cons_of_mem _ hp
      . exact hp
    . rw[if_pos hl];simp
   have hself:∀{d:Tmp},o.dst=some d->d∉o.looksAt ops:=λhd=>E6 hD.sa hD.ac ho hd
   have e1:∀u,bO (cv tm o.dst u) ops o=bO tm ops o:=λu=>ka (i:=i) (p:=i) λd hd=>hself hd
   have e2:∀u H,rd P H (cv tm o.dst u) o=rd P H tm o:=λu H=>nr λd hd=>hself hd
   have e3:∀u d,o.dst=some d->(cv tm o.dst u).get (bits d)=some u:=λu d hd=>by rw[fp,if_pos hd]
   have turn:j0 (je ops) i o=false->∃φ1 tmps1 w1 l,Steps P (lone (dp (cq c ds) tmps (.inRegion ops π::k)) (dY c.rc cs0) w) (lone (dp (cq c ds) tmps1 (.inRegion ops (i::l)::k)) (dY c.rc cs0) w1)/\
    φ.le φ1/\(∀k,k<lo->φ[k]? = some none->φ1[k]? = some none/\hp H k=hp H k)/\Fx P W lo cs0 c φ1 H nx tmps1 ds w1/\eY P φ1 H tm tmps1 ops done iX ((i,chk)::rest) (i::l) κ lo nx/\
    Region.wanted o (yielded ops tmps1)=b/\m8 P φ1 tm (dG tmps1) o.op.operands.toList:=by
    intro hc
    obtain⟨φ1,tmps1,w1,π',hs,hle,hH1,hlen,hk,hD1,_,hz,hn⟩:=qJ (fn:=cq c ds) (k:=k) (cs:=dY c.rc cs0) π φ tmps w x.hH hD hL
    obtain⟨l,rfl⟩:=hD1.head ho hc hn
    exact⟨φ1,tmps1,w1,l,hs,hle,λj hj q=>⟨hk j hj q,rfl⟩,x.next hle hH1 (hlen.trans x.bW) (Nat.le_refl _) hz,hD1,
     np hD1.tr (λp hp d hd=>kK hD1.ID hD1.own ho (j_ hp hd)) hb,uf hH1.gl hD1.tr λt ht=>kK hD1.ID hD1.own ho (j9 ht)⟩
   have fin:∀{φ1 φ2:cA} {H':T OB} {nx':Nat} {tmps1:Array Value} {w1 w2:World} {l:List Nat} {v v':Value},j0 (je ops) i o=false->Fx P W lo cs0 c φ1 H nx tmps1 ds w1->eY P φ1 H tm tmps1 ops done iX ((i,chk)::rest) (i::l) κ lo nx->
    Steps P (lone (dp (cq c ds) tmps1 (.inRegion ops (i::l)::k)) (dY c.rc cs0) w1) (lone (dp (cq c ds) (iM tmps1 o.dst v') (.inRegion ops l::k)) (dY c.rc cs0) w2)->
    φ1.le φ2->HR P W φ2 (hp H') w2->φ2.length=nx'->nx<=nx'->eP φ1 φ2 (hp H) (hp H')->VR φ2 v v'->((∀d,o.dst=some d->d<c.nt)/\(qb P H' (cv tm o.dst v) ops chk (sL P pl ops K rest c (cv tm o.dst v) H' nx')).run O=some r)->
    c_ P W c.kd c.fn lo cs0 c.rc φ1 H r (dp (cq c ds) tmps1 (.inRegion ops (i::l)::k)) w1:=by
    intro φ1 φ2 H' nx' tmps1 w1 w2 l v v' hc x1 hD1 hs hle hH2 hl hn hkp hv hq
    obtain⟨hd,hq⟩:=hq
    unfold qb at hq
    rcases ec hq with⟨hchk,hq⟩ | ⟨_,hq⟩
    . obtain⟨h6,h7⟩:=hD1.finish (H':=H') ho hc hle (λj _ q=>hkp j q) hn hv (λd h=>by rw[x1.j4];exact hd d h) hchk
      exact c_.steps hs hle (λk _ q=>hkp k q) (qP hO hK rest _ _ _ _ _ _ _ _ _ _ hq (x1.next hle hH2 hl hn (d_ ..)) h6 h7)
    . exact(gm hq).elim
   cases b with
   | true=>
     have h:=hy rfl
     unfold U6 at h
     rcases ec h with⟨hrd,h⟩ | ⟨hrd,h⟩
     . obtain⟨v,hv,h⟩:=bH h
       obtain⟨hd,hq⟩:=mo h
       cases hf:j0 (je ops) i o with
       | false=>
         obtain rfl:chk=[]:=(hpe hf).1 hrd
         obtain⟨φ1,tmps1,w1,l,hs,hle1,hk1,x1,hD1,hw1,hE1⟩:=turn hf
         obtain⟨v',hvr,hrun⟩:=qu x1.hH hE1 hv
         exact c_.steps hs hle1 hk1 (fin hf x1 hD1 (.one (eF ho hw1 hrun)) φ1.le_refl x1.hH x1.bW (Nat.le_refl _) (eP.refl _ _) hvr ⟨hd,by unfold qb;exact hq⟩)
       | true=>
       exact ahead (u:=v) (κ':=κ) hf hd φ.le_refl (λk _ q=>⟨q,rfl⟩) (λ_ _=>rfl) (Nat.le_refl _) x.hH x.bW
        (.inr (.inl ⟨(e1 v).trans hb,hrd,v,e3 v,λ_=>(e2 v H).trans hv⟩)) (λhal=>by
         rw[AG hal]at hrd
         cases hrd) (λ_ _ h=>h) (λ_ _=>(e2 v H).trans hv) hq
     . rcases ec h with⟨hal,h⟩ | ⟨hal,h⟩
       . cases hf:j0 (je ops) i o with
         | false=>
           obtain⟨φ1,tmps1,w1,l,hs,hle1,hk1,x1,hD1,hw1,hE1⟩:=turn hf
           refine c_.steps hs hle1 hk1 ?_
           obtain⟨v,H',nx',he,h⟩:=oQ h
           obtain⟨φ2,v',w2,hs2,h1,h2,h3,h4,h5⟩:=ui (fb:=cq c ds) (k:=k) (cs:=dY c.rc cs0) (rest:=l) ho hw1 (qz x1.hH x1.bW hE1 he)
           have hn:nx<=nx':=by have:=qM h2 h5;rw[x1.bW,h4]at this;exact this
           exact fin hf x1 hD1 (.one hs2) h2 h3 h4 hn h5 h1 (cU h)
         | true=>
         obtain⟨v,H',nx',he2,h⟩:=oQ h
         obtain⟨e,l,mk,hz,rfl,rfl,rfl⟩:=QR hal he2
         obtain⟨hd,hq⟩:=cU h
         unfold qb at hq
         have hq:=(ec hq).elim (λq=>q.2) (λq=>(gm q.2).elim)
         have hnone:hp H nx=none:=by
          cases hx:hp H nx with
          | none=>rfl
          | some ob=>have:=x.hH.nR nx ob hx;have:=x.bW;omega
         have bW:=x.bW
         subst bW
         refine ahead (u:=mk φ.length) (κ':=λp=>if p=i then φ.length else κ p) (φ':=φ++[none]) hf hd (cI φ _) (λj hj q=>⟨?_,?_⟩) (λp hp=>if_neg hp) (Nat.le_succ _) ?_ (by simp)
          (.inr (.inr ⟨(e1 _).trans hb,hal,e,l,mk,s_ (λy hy=>nq tm o.dst _ y λd hd q=>by
           subst q
           exact hself hd (j9 hy)) hz,?_,?_,?_,?_,λd hd=> ?_⟩)) (λ_=> ?_) (λj ob hj=> ?_) (λhl=> ?_) hq
         . rw[List.getElem?_append_left hj];exact q
         . rw[bB,aY _ (by omega)]
         . rw[bB];exact x.hH.QM _
         . dsimp only;rw[if_pos rfl];exact eE φ _
         . dsimp only;rw[if_pos rfl,bB,cK]
         . dsimp only;rw[if_pos rfl];exact x.j5
         . dsimp only;rw[if_pos rfl];omega
         . dsimp only;rw[if_pos rfl];exact e3 _ d hd
         . rw[if_pos rfl];exact Nat.le_refl _
         . rw[bB]
           by_cases hjn:j=φ.length
           . subst hjn;rw[hnone]at hj;cases hj
           . rw[aY _ hjn];exact hj
         . rw[IX hal]at hl;cases hl
       . have hc:j0 (je ops) i o=false:=by unfold j0;rw[hrd,hal];rfl
         obtain⟨φ1,tmps1,w1,l,hs,hle1,hk1,x1,hD1,hw1,hE1⟩:=turn hc
         refine c_.steps hs hle1 hk1 ?_
         rcases ec h with⟨hct,h⟩ | ⟨hct,h⟩
         . cases he:ef P H nx tm o with
           | bad=>rw[he]at h;cases h
           | val v H' nx'=>rw[he]at h;cases h
           | Qm g args=>rw[he]at h;cases h
           | Qn=>rw[he]at h;cases h
           | call g args=>
             rw[he]at h
             obtain⟨args',h1,hok,h2⟩:=AE hE1 he
             obtain⟨r1,h3,h4⟩:=mn (show(Q.ask (.call g args false none H nx) _).run O=some r from h)
             obtain⟨φ2,w2,hle,hH2,hl2,hkp,hn1,ho1⟩:=AI hO h3 x1.hH x1.bW h1 (C:=dp (cq c ds) tmps1 (.inRegion ops (i::l)::k)) rfl (dY c.rc cs0)
             cases hr1:r1.o with
             | ret v=>
               rw[hr1]at ho1
               simp only[hr1]at h4
               obtain⟨v',hv',hs2⟩:=ho1
               rw[lH ho]at hs2
               exact fin hc x1 hD1 (.head (jk ho hw1 (h2 w1)) hs2) hle hH2 hl2 hn1 hkp hv' (mo h4)
             | fR v=>
               rw[hr1]at ho1
               simp only[hr1]at h4
               obtain⟨v',hv',hs2⟩:=ho1
               rcases ec h4 with⟨hdf,h4⟩ | ⟨_,h4⟩
               . have hdf:=List.isEmpty_iff.1 hdf
                 obtain⟨fd,hfd,h4⟩:=bH (show(aa P.funcs[c.fn]? (λ_=>Q.ret ⟨.fR v,c.rc,r1.H,r1.nx⟩) .bad).run O=some r from h4)
                 have h4:=oP h4
                 subst h4
                 have uh:=x1.uh
                 rw[hdf]at uh
                 cases uh
                 exact⟨φ2,w2,_,.head (jk ho hw1 (h2 w1)) hs2,hle,hH2,hl2,λk _ q=>hkp k q,rfl,rfl,v',hv',rfl,rfl,fd,hfd⟩
               . exact(gm h4).elim
           | fR v=>
             rw[he]at h
             obtain⟨v',h1,h2⟩:=E1 hE1 he
             rcases ec h with⟨hdf,h4⟩ | ⟨_,h4⟩
             . have hdf:=List.isEmpty_iff.1 hdf
               obtain⟨fd,hfd,h4⟩:=bH (show(aa P.funcs[c.fn]? (λ_=>Q.ret ⟨.fR v,c.rc,H,nx⟩) .bad).run O=some r from h4)
               have h4:=oP h4
               subst h4
               have uh:=x1.uh
               rw[hdf]at uh
               cases uh
               exact⟨φ1,w1,_,.one (xo ho hw1 (h2 w1)),φ1.le_refl,x1.hH,x1.bW,λk _ q=>⟨q,rfl⟩,rfl,rfl,v',h1,rfl,rfl,fd,hfd⟩
             . exact(gm h4).elim
         . rcases ec h with⟨hfr,h⟩ | ⟨hfr,h⟩
           . simp only[Bool.and_eq_true]at hfr
             obtain⟨e,y,hop⟩:∃e y,o.op= .box e y:=by
              have hb:=hfr.2
              unfold Lz at hb
              split at hb
              . rename_i e y hop;exact⟨e,y,hop⟩
              . cases hb
             unfold QH at h
             simp only[hop]at h
             obtain⟨u,hu,h⟩:=bH (show(aa (bz P tm y) (λv=>bF (Nat.succ nx) λn=>jd c.nt tm o.dst (aj v) (λtm=>qb P H tm ops chk (sL P pl ops K rest c tm H n)) .bad) .bad).run O=some r from h)
             rw[ba]at h
             obtain⟨φ2,v',w2,hs2,h1,h2,h3,h4,h5⟩:=Fe x1.hH x1.bW hop (λv hv=>hE1 y (by rw[hop];simp[Op.operands]) v hv) hu
             exact fin hc x1 hD1 (.one (eF ho hw1 hs2)) h2 h3 h4 (Nat.le_succ _) h5 h1 (cU h)
           . obtain⟨v,H',nx',he,h⟩:=oQ h
             obtain⟨φ2,v',w2,hs2,h1,h2,h3,h4,h5⟩:=ui (fb:=cq c ds) (k:=k) (cs:=dY c.rc cs0) (rest:=l) ho hw1 (qz x1.hH x1.bW hE1 he)
             have hn:nx<=nx':=by have:=qM h2 h5;rw[x1.bW,h4]at this;exact this
             exact fin hc x1 hD1 (.one hs2) h2 h3 h4 hn h5 h1 (cU h)
   | false=>
     obtain⟨hd,hq⟩:=cU (hn0 rfl)
     cases hc:j0 (je ops) i o with
     | true=>
       unfold qb at hq
       rcases ec hq with⟨hchk,hq⟩ | ⟨_,hq⟩
       . refine ahead (u:=undef) (κ':=λp=>if p=i then nx else κ p) hc hd φ.le_refl (λk _ q=>⟨q,rfl⟩) (λp hp=>if_neg hp) (Nat.le_refl _) x.hH x.bW
          (.inl ⟨(e1 _).trans hb,e3 _⟩) (λ_=> ?_) (λ_ _ h=>h) (λ_ hw=> ?_) hq
         . rw[if_pos rfl];exact Nat.le_refl _
         . rw[e1,hb]at hw;cases hw
       . exact(gm hq).elim
     | false=>
       obtain⟨φ1,tmps1,w1,l,hs,hle1,hk1,x1,hD1,hw1,_⟩:=turn hc
       exact c_.steps hs hle1 hk1 (fin hc x1 hD1 (.one (qH ho hw1)) φ1.le_refl x1.hH x1.bW (Nat.le_refl _) (eP.refl _ _) (.flat undef rfl) (cU (hn0 rfl)))
end
end
end Go.Ev
