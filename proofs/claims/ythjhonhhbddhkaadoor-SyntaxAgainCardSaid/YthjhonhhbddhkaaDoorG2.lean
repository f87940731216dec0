/- Texts of this claim, side by side. -/
import Derived.Test.YthjhonhhbddhkaaDoorG1
import Derived.Scope
import Derived.Recover
namespace Go.Ev
open Go.RowKit (Below)
noncomputable section
set_option maxRecDepth 100000
set_option linter.unusedVariables false
set_option linter.unusedSimpArgs false
section
variable {P:Program}{W w:World}{φ:cK}{H:T OB}{tm:T Value}{ρ:Operand->Value}{g:Nat->Option OB}
theorem HR.alias (hH:HR P W φ g w){e:iz}{ob:OB}(hr:e.r<w.heap.size)(hno:∀k ob x,g k=some ob->live ob=true->φ[k]? = some (some x)->x.r≠e.r)
 (h0:e.fz=none) (hfz:∀(k:Nat) (x:iz) (c:Array Value),φ[k]? = some (some x)->x.fz=some c->e.r≠x.r) (hob:zx P W φ ob e w):
 HR P W (φ++[some e]) (od g φ.length (some ob)) w where
 below:=hH.below
 gl:=hH.MD (c_ φ _)
 qw:=λk o h=>by
  simp only[List.length_append,List.length_singleton]
  by_cases hk:k=φ.length
  . omega
  . rw[aK g hk]at h;have:=hH.qw k o h;omega
 pc:=λk x h=>by
  rcases bM h with h | ⟨_,h⟩
  . exact hH.pc k x h
  . cases h;exact hr
 inj:=λk k' o1 o2 x x' h h' hg hg' hl hl' hrr=>by
  rcases bM h with h0 | ⟨hk,hx⟩
  . have l0:=(List.getElem?_eq_some_iff.1 h0).1;rw[aK g (by omega)]at hg;rcases bM h' with h1 | ⟨hk',hx'⟩
    . have l1:=(List.getElem?_eq_some_iff.1 h1).1;rw[aK g (by omega)]at hg';exact hH.inj k k' o1 o2 x x' h0 h1 hg hg' hl hl' hrr
    . cases hx';exact absurd hrr (hno k o1 x hg hl h0)
  . cases hx;rcases bM h' with h1 | ⟨hk',hx'⟩
    . have l1:=(List.getElem?_eq_some_iff.1 h1).1;rw[aK g (by omega)]at hg';exact absurd hrr.symm (hno k' o2 x' hg' hl' h1)
    . exact hk.trans hk'.symm
 obj:=λk oa x hg h=>by
  rcases bM h with h0 | ⟨hk,hx⟩
  . have l0:=(List.getElem?_eq_some_iff.1 h0).1;rw[aK g (by omega)]at hg;exact(hH.obj k oa x hg h0).mono (c_ φ _)
  . cases hx;subst hk;rw[da]at hg;cases hg;exact hob.mono (c_ φ _)
 ng:=λk x c h hf=>by
  rcases bM h with h1 | ⟨_,hx⟩
  . exact hH.ng k x c h1 hf
  . cases hx;rw[h0]at hf;cases hf
 sq:=λk k' x x' c o h hf h' hg hl=>by
  rcases bM h with h1 | ⟨_,hx⟩
  . rcases bM h' with h2 | ⟨_,hx'⟩
    . have l2:=(List.getElem?_eq_some_iff.1 h2).1;rw[aK g (by omega)]at hg;exact hH.sq k k' x x' c o h1 hf h2 hg hl
    . cases hx';exact hfz k x c h1 hf
  . cases hx;rw[h0]at hf;cases hf
theorem HR.Rg (hH:HR P W φ g w){k n n':Nat}{t t':T Value}{el:TypeId}{e:iz}(hg:g k=some (.cells n t el))(hk:φ[k]? = some (some e))(hn:n'<=n)
 (ht:∀i,i<n'->t'.get (bits i)=t.get (bits i)):HR P W φ (od g k (some (.cells n' t' el))) w:=by
 obtain⟨h1,⟨c,el',h2,h3,h4,h5⟩,h6⟩:=hH.obj k _ e hg hk;exact hH.put hg rfl hk hH.below rfl (λ_ _=>rfl) ⟨h1,⟨c,el',h2,h3,by omega,λi hi v hv=>h5 i (by omega) v (by rw[<- ht i hi];exact hv)⟩,h6⟩
section ops
variable {o:Oper}{v:Value}{H':T OB}{nx nx':Nat}
theorem pH {w:World}{r off:Nat}{c:Array Value}{el:TypeId}{fz:Nat×Nat}(hr:w.heap[r]? = some (.cells c el fz)){s:Nat}:
 ∀(j:Nat) (v:Value),((c.toList.drop off).take s)[j]? = some v->w.cell? ((⟨r,off,none⟩:Addr).add j)=some v:=λj v hv=>by
 rw[dH,cell_of_row w r (off+j) c el fz hr];rw[List.getElem?_take]at hv;split at hv
 . rw[List.getElem?_drop]at hv;simpa using hv
 . cases hv
theorem uk (hH:HR P W φ (hp H) w){s n c:Nat}{base:Option Addr}{x':Value}{xs:List Value}(hv:VR φ (.slice base n c) x')(h:cellsOf H s base n=some xs):
 ∃xs',LR φ xs xs'/\xs'.length=n*s/\
  ((base=none/\n=0/\x'= .slice none n c)\/∃a c',x'= .slice (some a) n c'/\∀j v,xs'[j]? = some v->w.cell? (a.add j)=some v):=by
 cases base with
 | none=>
   obtain⟨h1,h2⟩:=aH (show(bif Nat.beq n 0 then some []else none)=some xs from h);cases h2;have h1:=beq_eq h1;subst h1;have:=hv.al rfl;exact⟨[],.nil,by simp,.inl ⟨rfl,rfl,this⟩⟩
 | some a=>
   obtain⟨b,off,sp⟩:=a;obtain⟨e,c',hb,rfl,rfl,_⟩:=hv.fH;have h:ud (H.get (bits b)) (λm tr=>bif Nat.ble (off+n*s) m then qS tr (n*s) off else none) none=some xs:=h;obtain⟨m,tr,hg,h⟩:=sk h;obtain⟨hle,hl⟩:=aH h;obtain⟨cs,el',fz,hr,hn,hc⟩:=hH.row hg hb;have hle:=db hle;obtain⟨h1,h2⟩:=nC hc hl hle hn;exact⟨_,h1,by rw[<- h1.len,h2],.inr ⟨_,c',rfl,pH hr⟩⟩
theorem ni {w:World}{x':Value}{n s:Nat}{xs':List Value}(hl:xs'.length=n*s)
 (h:(n=0/\∃c,x'= .slice none n c)\/∃a c',x'= .slice (some a) n c'/\∀j v,xs'[j]? = some v->w.cell? (a.add j)=some v):
 (Builtin.firstCells s n x').run P w= .ok xs'.toArray w/\(Builtin.lenOf x').run P w= .ok n w:=by
 rcases h with⟨rfl,c,rfl⟩ | ⟨a,c',rfl,h⟩
 . have:xs'=[]:=by
    cases xs' with
    | nil=>rfl
    | cons _ _=>simp at hl
   subst this;exact⟨rfl,rfl⟩
 . exact⟨run_firstCells_some w s n a n c' xs' hl h,rfl⟩
theorem um {es:List Value}{s:Nat}(h:∀x∈es,x.cells.toList.length=s):(es.flatMap λu=>u.cells.toList).length=es.length*s:=by
 induction es with
 | nil=>simp
 | cons x es ih=>
   rw[List.flatMap_cons,List.length_append,h x (by simp),ih λy hy=>h y (by simp[hy]),List.length_cons,Nat.succ_mul];omega
theorem zD {es:List Value}{s:Nat}(h:∀x∈es,x.cells.toList.length=s):∀(m:Nat) (v:Value),(es.flatMap λu=>u.cells.toList)[m]? = some v->∃i j x,m=i*s+j/\es[i]? = some x/\x.cells.toList[j]? = some v:=by
 induction es with
 | nil=>intro m v hv;simp at hv
 | cons x es ih=>
   intro m v hv;rw[List.flatMap_cons]at hv;have hx:=h x (by simp)
   by_cases hm:m<x.cells.toList.length
   . rw[List.getElem?_append_left hm]at hv;exact⟨0,m,x,by omega,rfl,hv⟩
   . rw[List.getElem?_append_right (by omega),hx]at hv;obtain⟨i,j,y,h1,h2,h3⟩:=ih (λy hy=>h y (by simp[hy])) _ v hv;refine⟨i+1,j,y,?_,by simpa using h2,h3⟩;rw[hx]at hm;rw[Nat.succ_mul];omega
theorem Bt (hH:HR P W φ (hp H) w){s xl:Nat}{xv x':Value}{xs:List Value}(hv:VR φ xv x')(h:ny H s xv=some (xl,xs)):
 ∃xs',LR φ xs xs'/\xs'.length=xl*s/\((xl=0/\∃c,x'= .slice none xl c)\/∃a c',x'= .slice (some a) xl c'/\∀j v,xs'[j]? = some v->w.cell? (a.add j)=some v):=by
 unfold ny at h;split at h
 . rename_i xb n xc;obtain⟨l,hl,h1⟩:=ar h;cases h1;obtain⟨xs',h2,h3,h4⟩:=uk hH hv hl;refine⟨xs',h2,h3,?_⟩;rcases h4 with⟨_,h4,h5⟩ | h4
   . exact .inl ⟨h4,_,h5⟩
   . exact .inr h4
 . obtain⟨s',es,rfl,h1⟩:=j8 h;obtain⟨h2,h3⟩:=aH h1;have h2:=beq_eq h2;subst h2;cases h3;clear h h1;rcases hv.jA with⟨rfl,hy | ⟨a,c',hy⟩⟩ | ⟨k,o',c',e,c,h3,h4,h5,h6,h7,h8,hy⟩
   . exact⟨[],.nil,by simp,.inl ⟨rfl,_,hy⟩⟩
   . exact⟨[],.nil,by simp,.inr ⟨_,c',hy,λj v hj=>by simp at hj⟩⟩
   . obtain⟨el,fz,hrow⟩:=hH.ng k e c h3 h4;have hlen:=um h5
     by_cases hne:es=[]
     . subst hne;exact⟨[],.nil,by simp,.inr ⟨_,c',hy,λj v hj=>by simp at hj⟩⟩
     . have h6:=h6 hne;refine⟨(c.toList.drop o').take (es.length*s'),⟨?_,λm a b ha hb=> ?_⟩,?_,.inr ⟨_,c',hy,pH hrow⟩⟩
       . rw[hlen];simp only[List.length_take,List.length_drop,Array.length_toList];omega
       . obtain⟨i,j,x,rfl,hi,hj⟩:=zD h5 m a ha;rw[List.getElem?_take]at hb;split at hb
         . rw[List.getElem?_drop,Array.getElem?_toList]at hb;exact h8 i j x a b hi hj (by rw[Nat.add_assoc];exact hb)
         . cases hb
       . simp only[List.length_take,List.length_drop,Array.length_toList];omega
theorem zE {e:TypeId}{s aQ:Nat}(h:br P e s aQ=true)(hs:aN P e=some s):
 ∃i z',P.info? e=some i/\i.zero=some z'/\i.size=s/\z'.cells.size=s/\0<s/\aQ<=1048576/\i.bytes<=65536:=by
 unfold br at h;split at h
 . rename_i i z hi hz;simp only[Bool.and_eq_true]at h;obtain⟨i',z',hi',hz',hl,_⟩:=gU hz;rw[hi]at hi';cases hi';have h1:=beq_eq h.1.1.1;refine⟨i,z',hi,hz',?_,?_,fo h.1.1.2,db h.1.2,db h.2⟩
   . unfold aN at hs;rw[hi]at hs;cases hs;rfl
   . rw[<- h1,<- hl];simp
 . cases h
theorem Bu {d:TypeDesc}(h:∀k,d ≠ .int k):(match d with | .int _=>true | _=>false)=false:=by
 cases d<;>first | rfl | exact absurd rfl (h _)
theorem nj (t u ty e:TypeId)(i:TypeInfo){d:TypeDesc}(ht:P.underlying t=some (.slice e))(hud:P.underlying u=some d)(hd:∀k,d ≠ .int k)(hi:P.info? e=some i)(b:Addr)(sLen sCap:Nat){x:Value}{n:Nat}{xs:List Value}
 (hn:(Builtin.lenOf x).run P w= .ok n w) (hf:(Builtin.firstCells i.size n x).run P w= .ok xs.toArray w) (hle:sLen+n<=sCap) {w':World}
 (hst:(storeCells (b.add (sLen*i.size)) xs).run P w= .ok () w'):
 (Builtin.append_ #[t,u] ty #[.slice (some b) sLen sCap,x]).run P w= .ok (.slice (some b) (sLen+n) sCap) w':=by
 have hm:=Bu hd;simp[Builtin.append_,run_underlying ht,run_underlying hud,hm,sizeOf,typeInfo,hi,hn,hle,hf,hst]
theorem qU (t u ty e:TypeId)(i:TypeInfo){d:TypeDesc}(ht:P.underlying t=some (.slice e))(hud:P.underlying u=some d)(hd:∀k,d ≠ .int k)(hi:P.info? e=some i){x:Value}{xs:List Value}
 (hn:(Builtin.lenOf x).run P w= .ok 0 w) (hf:(Builtin.firstCells i.size 0 x).run P w= .ok xs.toArray w):
 (Builtin.append_ #[t,u] ty #[.slice none 0 0,x]).run P w= .ok (.slice none 0 0) w:=by
 have hm:=Bu hd;simp[Builtin.append_,run_underlying ht,run_underlying hud,hm,sizeOf,typeInfo,hi,hn,hf]
theorem lB (t u ty e:TypeId)(i:TypeInfo)(z:Value){d:TypeDesc}(ht:P.underlying t=some (.slice e))(hud:P.underlying u=some d)(hd:∀k,d ≠ .int k)(hi:P.info? e=some i)(hz:i.zero=some z)
 (base:Option Addr) (sLen sCap:Nat) (olds:List Value) (holds:(Builtin.firstCells i.size sLen (.slice base sLen sCap)).run P w.drew= .ok olds.toArray w.drew) {x:Value} (n:Nat) (news:List Value)
 (hn:(Builtin.lenOf x).run P w= .ok n w) (hf:(Builtin.firstCells i.size n x).run P w.drew= .ok news.toArray w.drew)
 (hg:sCap<sLen+n) (h63:((sLen+n:Nat):Int)<=9223372036854775807) (hfit:Builtin.nextslicecap (sLen+n) sCap*i.bytes<=281474976710656):
 (Builtin.append_ #[t,u] ty #[.slice base sLen sCap,x]).run P w=
  .ok (.slice (some ⟨w.heap.size,0,none⟩) (sLen+n) (grownCap w (sLen+n) sCap e))
   (w.drew.alloc (.cells ((olds++news).toArray++Builtin.zeroCells z.cells (grownCap w (sLen+n) sCap e-(sLen+n))) e)):=by
 have hm:=Bu hd;have hn':¬(sLen+n<=sCap):=by omega
 have h63':¬(9223372036854775807<((sLen:Int)+(n:Int))):=by omega
 have h48':¬(281474976710656<Builtin.nextslicecap (sLen+n) sCap*i.bytes):=by omega
 simp[Builtin.append_,run_underlying ht,run_underlying hud,hm,sizeOf,typeInfo,zeroValue,hi,hz,hn,hn',h63',h48',Question.forced,hf,holds,newRow,grownCap];congr 2;apply Array.ext';simp[List.append_assoc]
theorem g_ {H:T OB}{nx:Nat}{e:TypeId}{m:Nat}{l:List Value}:gP H nx e m l= .val (.slice (some ⟨nx,0,none⟩) m eO) (set H (bits nx) (some (dq l e))) (nx+1):=by
 unfold gP;rw[fc,aP]
theorem ik {c:Call}(hc:c.callee= .builtin .append)(ho:o.op= .call c){r:Result Value}(h:(Builtin.append_ c.argTypes o.type (c.args.map ρ)).run P w=r):
 (execOp ρ o).run P w=r.andThen λv w'=> .ok (.value v) w':=by
 subst h;simp only[execOp,ho,resolve,hc,Sem.run_bind,Sem.run_pure,Result.andThen_ok,invoke,builtin]
theorem sA (z:Array Value)(n:Nat):(Builtin.zeroCells z n).size=n*z.size:=by simp[Builtin.zeroCells]
theorem grownCap_ge (w:World)(aQ old:Nat)(e:TypeId):aQ<=grownCap w aQ old e:=by
 unfold grownCap;simp only[Question.cut];omega
theorem C0 (b_:φ.length=nx){e:TypeId}{z':Value}{s m cap:Nat}{l l':List Value}{r:Result Next}(H₁:T OB)(hH₁:HR P W φ (hp H₁) w)(hk:fN φ φ (hp H) (hp H₁))
 (hs:aN P e=some s) (hz:z'.cells.size=s) (hl:LR φ l l') (hlen:l'.length=m*s) (hm:m<=cap)
 (hr:r= .ok (.value (.slice (some ⟨w.heap.size,0,none⟩) m cap)) (w.drew.alloc (.cells (l'.toArray++Builtin.zeroCells z'.cells (cap-m)) e))):
 jR P W φ H w r (.slice (some ⟨nx,0,none⟩) m eO) (set H₁ (bits nx) (some (dq l e))) (nx+1):=by
 subst b_;refine⟨_,_,_,_,hr,.inl rfl,.slice (ka φ w.heap.size (l'.toArray++Builtin.zeroCells z'.cells (cap-m)).size s) (.inr ⟨rfl,hm,?_⟩),lY _ _ _ _,?_,j_ _ _ _ _,?_⟩
 . simp only[Array.size_append,List.size_toArray,sA,hz,hlen];rw[<- Nat.add_mul];rw[show m+(cap-m)=cap from by omega];omega
 . rw[bw];exact hH₁.drew.fresh _ (v9 (w:=w.drew) hl e e _ (λz h=>by rw[hs]at h;cases h;rfl) hH₁.below.drew)
 . rw[bw];exact hk.trans (iX _ _ _ _ _ _)
theorem Pg (hH:HR P W φ (hp H) w)(b_:φ.length=nx){c:Call}(hc:c.callee= .builtin .append)(ho:o.op= .call c){t u e:TypeId}{s sl sc xl:Nat}{base:Option Addr}{sv xv:Value}{xs xs':List Value}
 (hty:c.argTypes=#[t,u]) (hargs:c.args.map ρ=#[sv,xv]) (hsv:VR φ (.slice base sl sc) sv) (hu:P.underlying t=some (.slice e)) (hux:∃d,P.underlying u=some d/\∀k,d ≠ .int k) (hs:aN P e=some s)
 (hsm:br P e s (sl+xl)=true) (hx1:LR φ xs xs') (hx2:xs'.length=xl*s) (hlx:∀w',(Builtin.lenOf xv).run P w'= .ok xl w') (hfx:(Builtin.firstCells s xl xv).run P w= .ok xs'.toArray w)
 (hfxd:(Builtin.firstCells s xl xv).run P w.drew= .ok xs'.toArray w.drew) (h:og P H nx e s base sl sc xl xs= .val v H' nx'):jR P W φ H w ((execOp ρ o).run P w) v H' nx':=by
 obtain⟨i,z',hi,hz,his,hzs,h0,hneed,hby⟩:=zE hsm hs;obtain⟨dd,hud,hdd⟩:=hux;rw[<- his]at hfx hfxd;have h48:∀old,old<sl+xl->Builtin.nextslicecap (sl+xl) old*i.bytes<=281474976710656:=λold hold=>
  growslice_fits hold (Nat.le_trans (Nat.mul_le_mul hneed hby) (by decide))
 cases base with
 | none=>
   have hsv:=hsv.al rfl;subst hsv;obtain⟨hb,h'⟩:=dw (show(bif Nat.beq sl 0&&Nat.beq sc 0 then(bif Nat.beq xl 0 then fj.val (.slice none 0 0) H nx else gP H nx e xl xs)else .bad)= .val v H' nx' from h);simp only[Bool.and_eq_true]at hb;have hb1:=beq_eq hb.1;have hb2:=beq_eq hb.2;subst hb1 hb2;cases hx0:Nat.beq xl 0 with
   | true=>
     rw[hx0]at h';have h':fj.val (.slice none 0 0) H nx= .val v H' nx':=h';cases h';have hx0:=beq_eq hx0;subst hx0;refine⟨φ,.slice none 0 0,w,.value (.slice none 0 0),?_,.inl rfl,.flat _ rfl,φ.le_refl,hH,b_,fN.refl _ _⟩;rw[ik hc ho (r:= .ok (.slice none 0 0) w) ?_]
     . rfl
     . rw[hty,hargs];exact qU t u o.type e i hu hud hdd hi (hlx w) hfx
   | false=>
     rw[hx0]at h';have h':gP H nx e xl xs= .val v H' nx':=h';rw[g_]at h';cases h';have hx0:0<xl:=by
      rcases Nat.eq_zero_or_pos xl with q | q
      . subst q;cases hx0
      . exact q
     refine C0 b_ H hH (fN.refl _ _) hs hzs hx1 hx2 (grownCap_ge w xl 0 e) ?_;rw[ik hc ho rfl,hty,hargs];have h5:=lB (P:=P) (w:=w) t u o.type e i z' hu hud hdd hi hz none 0 0 [] rfl xl xs' (hlx w) hfxd (by omega) (by omega) (h48 0 (by omega));rw[Nat.zero_add,List.nil_append]at h5;rw[h5];rfl
 | some a0=>
   obtain⟨b,off,sp⟩:=a0;obtain⟨en,c0,hb,rfl,rfl,hcap⟩:=hsv.fH;have h:dV (H.get (bits b)) (λn tr el=>bif Nat.beq sc eO then Q2 P H nx e s b off sl xl n tr xs
    else bif Nat.ble (sl+xl) sc then F4 H nx s b off sl sc xl n tr el xs else qu H nx e s off sl xl n tr xs) .bad= .val v H' nx':=h
   obtain⟨n,tr,el,hg,h⟩:=sy h;obtain⟨cr,elr,hrow,hrsz,hrn,oB⟩:=hH.cells hg hb;have grow:∀(H₁:T OB) (old:List Value),HR P W φ (hp H₁) w->fN φ φ (hp H) (hp H₁)->qS tr (sl*s) off=some old->off+sl*s<=n->c0<sl+xl->0<xl->
    jR P W φ H w ((execOp ρ o).run P w) (.slice (some ⟨nx,0,none⟩) (sl+xl) eO) (set H₁ (bits nx) (some (dq (old++xs) e))) (nx+1):=by
    intro H₁ old hH₁ hk hold hle hlt hx0;obtain⟨ho1,ho2⟩:=nC oB hold hle (by omega);have holds:=run_firstCells_some (P:=P) w.drew i.size sl ⟨en.r,off,none⟩ sl c0 _ (by rw[<- ho1.len,ho2,his]) (pH (w:=w.drew) (s:=sl*s) hrow);refine C0 b_ H₁ hH₁ hk hs hzs (ho1.append hx1) ?_ (grownCap_ge w (sl+xl) c0 e) ?_
    . rw[List.length_append,<- ho1.len,ho2,hx2,Nat.add_mul]
    . rw[ik hc ho rfl,hty,hargs,lB (P:=P) (w:=w) t u o.type e i z' hu hud hdd hi hz (some ⟨en.r,off,none⟩) sl c0 _ holds xl xs' (hlx w) hfxd hlt (by omega) (h48 c0 hlt)];rfl
   cases hsc:Nat.beq sc eO with
   | true=>
     rw[hsc]at h;have h:Q2 P H nx e s b off sl xl n tr xs= .val v H' nx':=h;have hsc:=beq_eq hsc;rcases hcap with⟨q,_⟩ | ⟨_,hcl,hcb⟩
     . exact absurd hsc q
     unfold Q2 at h;obtain⟨hq,h⟩:=dw h;obtain⟨old,hold,h⟩:=cu h;rw[aL,g_]at h;cases h;simp only[Bool.and_eq_true]at hq;have hoff:=beq_eq hq.1.1.1;have hsn:=db hq.1.1.2;subst hoff;have hes:en.es=s:=by
      have h15:=hq.1.2;unfold rT at h15;rw[hg]at h15;have h15:af (aN P el) (λz=>Nat.beq z s) false=true:=h15;cases hz:aN P el with
      | none=>rw[hz]at h15;cases h15
      | some z=>
        rw[hz]at h15;have h15:Nat.beq z s=true:=h15;have:=beq_eq h15;subst this;exact hH.es (show hp H b=some (.cells n tr el)from hg) hb z hz
     have hkill:HR P W φ (hp (set H (bits b) (some .dead))) w:=by rw[bw];exact hH.kill (show hp H b=some (.cells n tr el)from hg) hb
     have hkeep:fN φ φ (hp H) (hp (set H (bits b) (some .dead))):=λk hk=>⟨hk,by
      rw[bw,aK];intro q;subst q;rw[hb]at hk;cases hk⟩
     by_cases hfit:sl+xl<=c0
     . -- in place: the new block of ours over the old row
       obtain⟨ho1,ho2⟩:=nC oB hold (by omega) (by omega);have hle1:(sl+xl)*s<=en.sz:=by
        have:(sl+xl)*s<=c0*s:=Nat.mul_le_mul_right s hfit;rw[hes]at hcb;omega
       rw[Nat.add_mul]at hle1;obtain⟨hab,_,_⟩:=hH.obj b _ en (show hp H b=some (.cells n tr el)from hg) hb;have hAl:=hkill.alias (e:=en) (ob:= .cells en.sz (e8 old 0 .leaf) e) (hH.pc b en hb) (λk ob x hgk hlk hφk hr=>by
        rw[bw]at hgk
        by_cases hkb:k=b
        . subst hkb;rw[da]at hgk;cases hgk;cases hlk
        . rw[aK _ hkb]at hgk;exact hkb (hH.inj k b _ _ x en hφk hb hgk (show hp H b=some (.cells n tr el)from hg) hlk rfl hr))
        (by
         cases hz:en.fz with
         | none=>rfl
         | some cz=>exact absurd rfl (hH.sq b b en en cz _ hb hz hb (show hp H b=some (.cells n tr el)from hg) rfl))
        (λk x cz hx hz=>hH.sq k b x en cz _ hx hz hb (show hp H b=some (.cells n tr el)from hg) rfl) ⟨hab,⟨cr,elr,hrow,hrsz,Nat.le_refl _,λj hj v hv=>by
        rw[dO]at hv;split at hv
        . rename_i hjl;have hj2:j<sl*s:=by omega
          have h3:=(sf tr (sl*s) 0 old hold).2 j hj2;rw[Nat.zero_add]at h3;rw[Nat.sub_zero]at hv;rw[hv]at h3;exact oB j (by omega) v h3
        . rw[j7]at hv;cases hv⟩,λz hz=>by rw[hs]at hz;cases hz;exact hes⟩
       obtain⟨w',hrun,hH2⟩:=gB (φ:=φ++[some en]) (b:=φ.length) (n:=en.sz) (el:=e) (e:=en) (fp φ _) xs xs' (sl*s) 0 _ w _ hAl (da _ _ _) (hx1.mono (c_ φ _)) hq.2 (by rw[hx1.len,hx2];omega);rw[oy,Nat.add_zero]at hH2;have hH3:=hH2.Rg (k:=φ.length) (n':=(old++xs).length) (t':=e8 (old++xs) 0 .leaf) (da _ _ _) (fp φ _) (by rw[List.length_append,ho2,hx1.len,hx2];omega) (λj hj=>by
        rw[dO,dO,if_pos (by omega),Nat.sub_zero];rw[List.length_append,ho2]at hj
        by_cases hjs:j<sl*s
        . rw[if_neg (by omega),List.getElem?_append_left (by omega),dO,if_pos (by omega),Nat.sub_zero]
        . rw[if_pos (by omega),List.getElem?_append_right (by omega),ho2])
       rw[oy]at hH3;subst b_;refine⟨φ++[some en],.slice (some ⟨en.r,0,none⟩) (sl+xl) c0,w',.value (.slice (some ⟨en.r,0,none⟩) (sl+xl) c0),?_,.inl rfl,.slice (fp φ _) (.inr ⟨rfl,hfit,hcb⟩),c_ φ _,?_,by simp,?_⟩
       . rw[ik hc ho (r:= .ok (.slice (some ⟨en.r,0,none⟩) (sl+xl) c0) w') ?_]
         . rfl
         . rw[hty,hargs];refine nj t u o.type e i hu hud hdd hi ⟨en.r,0,none⟩ sl c0 (hlx w) hfx hfit ?_;rw[dH,his,Nat.zero_add];exact hrun
       . rw[bw];exact hH3
       . rw[bw];refine hkeep.trans (λk hk=>⟨?_,aK _ ?_ _⟩)
         . rw[List.getElem?_append_left (List.getElem?_eq_some_iff.1 hk).1];exact hk
         . have:=(List.getElem?_eq_some_iff.1 hk).1;omega
     . exact grow _ old hkill hkeep hold (by omega) (by omega) (by omega)
   | false=>
     rw[hsc]at h;have hne:sc≠eO:=λq=>by rw[q]at hsc;exact absurd (Nat.beq_refl eO) (by rw[hsc];decide)
     have hc0:c0=sc:=by
      rcases hcap with⟨_,q⟩ | ⟨q,_⟩
      . exact q
      . exact absurd q hne
     subst hc0;have h:(bif Nat.ble (sl+xl) c0 then F4 H nx s b off sl c0 xl n tr el xs else qu H nx e s off sl xl n tr xs)= .val v H' nx':=h;cases hle:Nat.ble (sl+xl) c0 with
     | true=>
       rw[hle]at h;have h:F4 H nx s b off sl c0 xl n tr el xs= .val v H' nx':=h;have hle:=db hle;unfold F4 at h;obtain⟨hq,h⟩:=dw h;rw[du,aL,aP]at h;cases h;simp only[Bool.and_eq_true]at hq;have hin:=db hq.1;have hmul:(sl+xl)*s<=c0*s:=Nat.mul_le_mul_right s hle;rw[Nat.add_mul]at hmul;obtain⟨w',hrun,hH2⟩:=gB hb xs xs' (off+sl*s) 0 (hp H) w tr hH hg hx1 hq.2 (by rw[hx1.len,hx2];omega);refine⟨φ,.slice (some ⟨en.r,off,none⟩) (sl+xl) c0,w',.value (.slice (some ⟨en.r,off,none⟩) (sl+xl) c0),?_,.inl rfl,.slice hb (.inl ⟨hne,rfl⟩),φ.le_refl,?_,b_,?_⟩
       . rw[ik hc ho (r:= .ok (.slice (some ⟨en.r,off,none⟩) (sl+xl) c0) w') ?_]
         . rfl
         . rw[hty,hargs];refine nj t u o.type e i hu hud hdd hi ⟨en.r,off,none⟩ sl c0 (hlx w) hfx hle ?_;rw[dH,his];exact hrun
       . rw[bw];exact hH2
       . intro k hk;refine⟨hk,?_⟩;rw[bw,aK];intro q;subst q;rw[hb]at hk;cases hk
     | false=>
       rw[hle]at h;have h:qu H nx e s off sl xl n tr xs= .val v H' nx':=h;have hlt:c0<sl+xl:=by
        rcases Nat.lt_or_ge c0 (sl+xl)with q | q
        . exact q
        . exact absurd (Nat.ble_eq_true_of_le q) (by rw[hle];decide)
       unfold qu at h;obtain⟨hq,h⟩:=dw h;obtain⟨old,hold,h⟩:=cu h;rw[g_]at h;cases h;simp only[Bool.and_eq_true]at hq;exact grow H old hH (fN.refl _ _) hold (db hq.1) hlt (fo hq.2)
theorem Ge (hH:HR P W φ (hp H) w)(b_:φ.length=nx){c:Call}(hc:c.callee= .builtin .append)(ho:o.op= .call c)(hE:pe P φ tm ρ c.args.toList)
 (h:cO P H nx c.argTypes.toList (qT P tm c.args.toList)= .val v H' nx'):jR P W φ H w ((execOp ρ o).run P w) v H' nx':=by
 have two:∀{a b:Value},qT P tm c.args.toList=some [a,b]->∃sv xv,VR φ a sv/\VR φ b xv/\c.args.map ρ=#[sv,xv]:=by
  intro a b hevs;have hLRa:=pq _ _ hE hevs;obtain⟨sv,m1,hm1,hsv,hrest⟩:=hLRa.inv;obtain⟨xv,m2,hm2,hxv,hrest⟩:=hrest.inv;have hm3:=hrest.mH;subst hm3;subst hm2;exact⟨sv,xv,hsv,hxv,Array.ext' (by rw[Array.toList_map];exact hm1)⟩
 have tys:∀{t u:TypeId},c.argTypes.toList=[t,u]->c.argTypes=#[t,u]:=λ{t u} q=>by
  have:c.argTypes.toList.toArray=#[t,u]:=by rw[q]
  simpa using this
 unfold cO at h;split at h
 . rename_i base sl sc b t u hevs htys;obtain⟨sv,xv,hsv,hxv,hargs⟩:=two hevs;have hxv:=hxv.al rfl;subst hxv;obtain⟨hst,h⟩:=dw h;obtain⟨e,s,hu,hs,h⟩:=jB h;obtain⟨hsm,h⟩:=dw h;simp only[Bool.and_eq_true]at hsm;have hs1:=beq_eq hsm.2;subst hs1;have hud:∃d,P.underlying u=some d/\∀k,d ≠ .int k:=by
    unfold nA at hst;split at hst
    . rename_i q;exact⟨_,q,λk=>by simp⟩
    . cases hst
   have hfc:∀w',(Builtin.firstCells 1 b.size (.string b)).run P w'= .ok (b.data.toList.map λx=>Value.int .u8 (.ofNat x.toNat)).toArray w':=λw'=>by
    simp[Builtin.firstCells];exact Array.ext' (by simp)
   refine Pg hH b_ hc ho (xv:= .string b) (xs:=b.data.toList.map λx=> .int .u8 (.ofNat x.toNat)) (tys htys) hargs hsv hu hud hs hsm.1 (LR.of_flat (λx hx=> ?_)) ?_ (λw'=>rfl) (hfc w) (hfc w.drew) h
   . obtain⟨y,_,rfl⟩:=List.mem_map.1 hx;rfl
   . simp
 . unfold oh at h;split at h
   case h_2=>cases h
   rename_i base sl sc xv0 t u hevs htys;obtain⟨sv,xv,hsv,hxv,hargs⟩:=two hevs;cases htu:Nat.beq t u with
   | false=>rw[htu]at h;cases h
   | true=>
     rw[htu]at h;have htu:=beq_eq htu;subst htu;have h:dt P t (λe s=>af (ny H s xv0) (λp=>bif br P e s (sl+p.1)then og P H nx e s base sl sc p.1 p.2 else .bad) .bad) .bad= .val v H' nx':=h;obtain⟨e,s,hu,hs,h⟩:=jB h;obtain⟨⟨xl,xs⟩,hxs,h⟩:=cu h;obtain⟨hsm,h⟩:=dw h;obtain⟨xs',hx1,hx2,hx3⟩:=Bt hH hxv hxs;obtain⟨hfx,hlx⟩:=ni (P:=P) hx2 hx3;have hx3':(xl=0/\∃c,xv= .slice none xl c)\/∃a c',xv= .slice (some a) xl c'/\∀j v,xs'[j]? = some v->w.drew.cell? (a.add j)=some v:=hx3;obtain⟨hfxd,_⟩:=ni (P:=P) (w:=w.drew) hx2 hx3';have hl:∀w',(Builtin.lenOf xv).run P w'= .ok xl w':=λw'=>by
      rcases hx3 with⟨_,c,rfl⟩ | ⟨a,c',rfl,_⟩<;>rfl
     exact Pg hH b_ hc ho (tys htys) hargs hsv hu ⟨_,hu,λk=>by simp⟩ hs hsm hx1 hx2 hl hfx hfxd h
end ops
end
section
variable {P:Program}{W w:World}{φ:cK}{H:T OB}{tm:T Value}{ρ:Operand->Value}{g:Nat->Option OB}
section ops
variable {o:Oper}{v:Value}{H':T OB}{nx nx':Nat}
theorem Bv (hH:HR P W φ (hp H) w)(b_:φ.length=nx){t:TypeId}(ho:o.op= .makeMap t none)
 (h:(dp (bits nx) H (some (.map [] 0)) λH=>bo (Nat.succ nx) λn=>fj.val (.map (some nx)) H n)= .val v H' nx'):jR P W φ H w ((execOp ρ o).run P w) v H' nx':=by
 rw[aL,aP]at h;cases h;subst b_;refine⟨fresh φ w.heap.size 0 0,.map (some w.heap.size),w.alloc (.map #[] 0),.value (.map (some w.heap.size)),?_,.inl rfl,.map (ka φ _ _ _),lY _ _ _ _,?_,j_ _ _ _ _,?_⟩
 . simp[execOp,ho,Instr.makeMap]
 . rw[bw];exact hH.fresh _ ⟨hH.below.size,#[],Go.heap_alloc_new w _,.nil⟩
 . rw[bw];exact iX _ _ _ _ _ _
theorem nk (hH:HR P W φ (hp H) w)(b_:φ.length=nx){m m':Option Nat}{c:Nat}(hm:Bj φ m m'){r:Result Next}
 (hr:r= .ok (.value (.pointer (some ⟨w.heap.size,0,none⟩))) (w.alloc (.mapIter m' c #[] c))) (h:mG H nx m c= .val v H' nx'):jR P W φ H w r v H' nx':=by
 unfold mG at h;rw[aL,aP]at h;cases h;subst b_;refine⟨fresh φ w.heap.size 0 0,_,_,_,hr,.inl rfl,.ptr (ka φ _ _ _),lY _ _ _ _,?_,j_ _ _ _ _,?_⟩
 . rw[bw];exact hH.fresh _ ⟨hH.below.size,m',#[],Go.heap_alloc_new w _,rfl,hm⟩
 . rw[bw];exact iX _ _ _ _ _ _
theorem oC {x:Option OB}{k:List MapEntry->Nat->fj}{v:Value}{H':T OB}{nx':Nat}(h:vN x k .bad= .val v H' nx'):∃es c,x=some (.map es c)/\k es c= .val v H' nx':=by
 unfold vN at h;split at h
 . exact⟨_,_,rfl,h⟩
 . cases h
theorem uR {x:Option OB}{k:Option Nat->Nat->List Nat->Nat->fj}{v:Value}{H':T OB}{nx':Nat}(h:r8 x k .bad= .val v H' nx'):
 ∃m s l c,x=some (.iter m s l c)/\k m s l c= .val v H' nx':=by
 unfold r8 at h;split at h
 . exact⟨_,_,_,_,rfl,h⟩
 . cases h
theorem Gf {t:TypeId}{k:TypeDesc->TypeId->fj}{v:Value}{H':T OB}{nx':Nat}(h:na P t k .bad= .val v H' nx'):
 ∃kt et d,P.underlying t=some (.map kt et)/\P.underlying kt=some d/\jy d=true/\k d et= .val v H' nx':=by
 unfold na at h;split at h
 . rename_i kt et hu;obtain⟨d,h1,h2⟩:=cu h;obtain⟨h3,h4⟩:=dw h2;exact⟨kt,et,d,hu,h1,h3,h4⟩
 . cases h
theorem HZ (hH:HR P W φ (hp H) w)(b_:φ.length=nx){t:TypeId}{x:Operand}(ho:o.op= .range t x)(hE:∀v,bq P tm x=some v->VR φ v (ρ x))
 (h:vO P H nx t (bq P tm x)= .val v H' nx'):jR P W φ H w ((execOp ρ o).run P w) v H' nx':=by
 unfold vO at h;obtain⟨ht,h⟩:=dw h;unfold HG at ht;split at ht
 . rename_i kt et hu;split at h
   . rename_i hx;have hx':=(hE _ hx).al rfl;refine nk (m':=none) hH b_ (show Bj φ none none from trivial) ?_ h;simp[execOp,ho,hx',Instr.range,a_ hu]
   . rename_i b hx;obtain⟨e,hb,hx'⟩:=(hE _ hx).oo;obtain⟨es,c,hg,h⟩:=oC h;obtain⟨_,es',hr,hml⟩:=hH.obj b _ e (show hp H b=some (.map es c)from hg) hb;refine nk (m':=some e.r) hH b_ (show Bj φ (some b) (some e.r)from⟨e,hb,rfl⟩) ?_ h;simp[execOp,ho,hx',Instr.range,a_ hu,MapKept.run_getObj_map hr]
   . cases h
 . cases ht
theorem nD {w:World}{r:Nat}{o o':Obj}(hr:w.heap[r]? = some o)(hn:∀c e f,o ≠ .cells c e f):(setObj r o').run P w= .ok () { w with heap:=w.heap.setIfInBounds r o' }:=by
 unfold Go.setObj;cases o with
 | cells c e f=>exact absurd rfl (hn _ _ _)
 | _=>simp only[Sem.run,hr]
theorem eE {w:World}{r:Nat}{o:Obj}(hr:w.heap[r]? = some o)(hn:∀c e f,o ≠ .cells c e f):(getObj r).run P w= .ok o w:=by
 unfold getObj;cases o with
 | cells c e f=>exact absurd rfl (hn _ _ _)
 | _=>simp only[Sem.run,hr]
theorem HR.setObj (hH:HR P W φ g w){b:Nat}{ob0 ob':OB}{e:iz}(hg:g b=some ob0)(hl:live ob0=true)(hb:φ[b]? = some (some e))(o':Obj)
 (hob:zx P W φ ob' e { w with heap:=w.heap.setIfInBounds e.r o' }):HR P W φ (od g b (some ob')) { w with heap:=w.heap.setIfInBounds e.r o' }:=by
 have hab:=zx.U4 hl (hH.obj b ob0 e hg hb);refine hH.put hg hl hb ?_ (by simp) (λr hr=>Array.getElem?_setIfInBounds_ne (λq=>hr q.symm)) hob;exact hH.below.trans ⟨rfl,rfl,rfl,by simp,λk hk=>Array.getElem?_setIfInBounds_ne (by omega)⟩
theorem heap_set {w:World}{r:Nat}{o o':Obj}(hr:w.heap[r]? = some o):({ w with heap:=w.heap.setIfInBounds r o' }:World).heap[r]? = some o':=
 Array.getElem?_setIfInBounds_self_of_lt (Array.getElem?_eq_some_iff.1 hr).1
theorem zF {b:Nat}{e:iz}(hb:φ[b]? = some (some e))(x:Option OB):fN φ φ g (od g b x):=λk hk=>⟨hk,aK g (λq=>by subst q;rw[hb]at hk;cases hk) x⟩
theorem qv.length {l l':List MapEntry}(h:qv φ l l'):l'.length=l.length:=by
 induction h with
 | nil=>rfl
 | cons _ _ ih=>simp[ih]
theorem qv.append {a a' b b':List MapEntry}(h:qv φ a a')(h':qv φ b b'):qv φ (a++b) (a'++b'):=by
 induction h with
 | nil=>exact h'
 | cons h _ ih=>exact .cons h ih
theorem qv.modify {k k' v v':Value}(hk:VR φ k k')(hv:VR φ v v'){l l':List MapEntry}(h:qv φ l l'):∀i,qv φ (l.modify i λe=>{ e with key:=k,val:=v }) (l'.modify i λe=>{ e with key:=k',val:=v' }):=by
 induction h with
 | nil=>intro i;cases i<;>exact .nil
 | @cons e e' l l' he hl ih=>
   intro i;cases i with
   | zero=>exact .cons ⟨hk,hv,he.born⟩ hl
   | succ i=>exact .cons he (ih i)
theorem qB {d:TypeDesc}{k:Value}:∀(l:List MapEntry) (i j:Nat) (v:Value),Instr.findNow d k l i=some (some (j,v))->∃n e,j=i+n/\l[n]? = some e/\Instr.sameNow d k e.key=some true
 | [],i,j,v,h=>by cases h
 | e::l,i,j,v,h=>by
   unfold Instr.findNow at h;cases hs:Instr.sameNow d k e.key with
   | none=>rw[hs]at h;cases h
   | some b=>
     rw[hs]at h;cases b with
     | true=>cases h;exact⟨0,e,rfl,rfl,hs⟩
     | false=>
       obtain⟨n,e',h1,h2,h3⟩:=qB l (i+1) j v h;exact⟨n+1,e',by omega,by simpa using h2,h3⟩
theorem bytes_beq {a b:ByteArray}(h:(a == b)=true):(b == a)=true:=by
 have:a=b:=by
  cases a;cases b;exact congrArg _ (eq_of_beq h)
 subst this;exact h
theorem zG {d:TypeDesc}{k a:Value}(h:Instr.sameNow d k a=some true)(n:Nat):Instr.sameBits (n+1) a k=true:=by
 unfold Instr.sameNow at h;split at h
 . split at h
   . rename_i hk;subst hk;injection h with h
     have:=beq_iff_eq.1 h;subst this;simp[Instr.sameBits]
   . cases h
 . injection h with h
   simp only[Instr.sameBits];exact bytes_beq h
 . injection h with h
   have:=beq_iff_eq.1 h;subst this;simp[Instr.sameBits]
 . cases h
theorem oD (hH:HR P W φ (hp H) w)(b_:φ.length=nx){t:TypeId}{m k x:Operand}(ho:o.op= .mapUpdate t m k x)(hE:pe P φ tm ρ [m,k,x])
 (h:bt P H nx t (bq P tm m) (bq P tm k) (bq P tm x)= .val v H' nx'):jR P W φ H w ((execOp ρ o).run P w) v H' nx':=by
 unfold bt at h;obtain⟨kt,et,d,hu,hd,hkk,h⟩:=Gf h;obtain⟨b,hm,h⟩:=cu h;obtain⟨kv,hk,h⟩:=cu h;obtain⟨xv,hx,h⟩:=cu h;obtain⟨es,c,hg,h⟩:=oC h;have hm':bq P tm m=some (.map (some b)):=by
  unfold Pa at hm;split at hm
  . rename_i q;cases hm;exact q
  . cases hm
 obtain⟨e,hb,hmr⟩:=(hE m (by simp) _ hm').oo;have hkv:=hE k (by simp) kv hk;have hxv:=hE x (by simp) xv hx;have hgb:hp H b=some (.map es c):=hg;obtain⟨hab,es',hr,hml⟩:=hH.obj b _ e hgb hb;have hnc:∀c' e' f,Obj.map es' c ≠ .cells c' e' f:=λ_ _ _=>by simp
 cases hf:Instr.findNow d kv es 0 with
 | none=>rw[hf]at h;cases h
 | some r=>
   rw[hf]at h;obtain⟨r',hf',hfr⟩:=su hkv hml 0 r hf;have hfk:=run_findKey hd hf' w;have fin:∀(nes:List MapEntry) (nes':Array MapEntry) (nc:Nat),qv φ nes nes'.toList->(execOp ρ o).run P w= .ok .skip { w with heap:=w.heap.setIfInBounds e.r (.map nes' nc) }->
    jR P W φ H w ((execOp ρ o).run P w) undef (set H (bits b) (some (.map nes nc))) nx:=λnes nes' nc hn hrun=>
    ⟨φ,undef,_,.skip,hrun,.inr ⟨rfl,rfl⟩,.flat _ rfl,φ.le_refl,by rw[bw];exact hH.setObj hgb rfl hb _ ⟨hab,nes',heap_set hr,hn⟩,b_,by rw[bw];exact zF hb _⟩
   cases hfr with
   | @some i u u' hu'=>
     have h:(dp (bits b) H (some (.map (es.modify i λe=>{ e with key:=kv,val:=xv }) c)) λH=>fj.val undef H nx)= .val v H' nx':=h;rw[aL]at h;cases h;refine fin _ (es'.modify i λe=>{ e with key:=ρ k,val:=ρ x }) c (by rw[Array.toList_modify];exact hml.modify hkv hxv i) ?_;obtain⟨n,en,hn1,hn2,hn3⟩:=qB _ _ _ _ hf';rw[Nat.zero_add]at hn1;subst hn1;have hkey:(Instr.keyThatStays (((es'[i]?).map (·.key)).getD (ρ k)) (ρ k)).run P w= .ok (ρ k) w:=by
      have h1:es'[i]? = some en:=by simpa using hn2
      rw[h1];simp only[Option.map_some,Option.getD_some,Instr.keyThatStays,zG hn3 9999,if_true];rfl
     simp only[execOp,ho,hmr,Instr.mapUpdate,Sem.run_bind,a_ hu,Result.andThen_ok,eE hr hnc,run_checkKey hd hkk,hfk,hkey,nD hr hnc];rfl
   | none=>
     have h:(bo (Nat.succ c) λc'=>dp (bits b) H (some (.map (es++[⟨kv,xv,c⟩]) c')) λH=>fj.val undef H nx)= .val v H' nx':=h;rw[aP,aL]at h;cases h;refine fin _ (es'.push { key:=ρ k,val:=ρ x,born:=c }) (c+1) (by rw[Array.toList_push];exact hml.append (.cons ⟨hkv,hxv,rfl⟩ .nil)) ?_;simp only[execOp,ho,hmr,Instr.mapUpdate,Sem.run_bind,a_ hu,Result.andThen_ok,eE hr hnc,run_checkKey hd hkk,hfk,nD hr hnc];rfl
theorem qv.filter {l l':List MapEntry}(h:qv φ l l')(p:Nat->Bool):qv φ (l.filter λe=>p e.born) (l'.filter λe=>p e.born):=by
 induction h with
 | nil=>exact .nil
 | @cons e e' l l' he hl ih=>
   simp only[List.filter_cons,he.born];split
   . exact .cons he ih
   . exact ih
theorem qv.all {l l':List MapEntry}(h:qv φ l l')(p:Nat->Bool):(l'.all λe=>p e.born)=(l.all λe=>p e.born):=by
 induction h with
 | nil=>rfl
 | cons he _ ih=>simp only[List.all_cons,he.born,ih]
theorem MF (hH:HR P W φ (hp H) w)(b_:φ.length=nx){x:Operand}{isS:Bool}(ho:o.op= .next x isS)(hE:∀v,bq P tm x=some v->VR φ v (ρ x))
 (h:Bc H nx (bq P tm x) isS= .val v H' nx'):jR P W φ H w ((execOp ρ o).run P w) v H' nx':=by
 unfold Bc at h;cases isS with
 | true=>cases h
 | false=>
   have h:zc (bq P tm x) (λr off=>bif Nat.beq off 0 then r8 (H.get (bits r)) (λm since seen last=>match m with
    | none=>fj.val (.tuple #[.bool false]) H nx
    | some m=>uC H nx r m since last seen) .bad else .bad) .bad= .val v H' nx':=h
   obtain⟨r,off,hx,h⟩:=sx h;obtain⟨h0,h⟩:=dw h;have h0:=beq_eq h0;subst h0;obtain⟨m,since,seen,last,hg,h⟩:=uR h;obtain⟨e,hb,_,hxr⟩:=(hE _ hx).e_;have hgb:hp H r=some (.iter m since seen last):=hg;obtain⟨hab,m',seen',hr,hseen,hmn⟩:=hH.obj r _ e hgb hb;have hnc:∀c' e' f,Obj.mapIter m' since seen' last ≠ .cells c' e' f:=λ_ _ _=>by simp
   have over:(execOp ρ o).run P w= .ok (.value (.tuple #[.bool false])) w->jR P W φ H w ((execOp ρ o).run P w) (.tuple #[.bool false]) H nx:=λhrun=>
    ⟨φ,_,w,_,hrun,.inl rfl,.flat _ rfl,φ.le_refl,hH,b_,fN.refl _ _⟩
   cases m with
   | none=>
     cases m' with
     | some _=>exact hmn.elim
     | none=>
       have h:fj.val (.tuple #[.bool false]) H nx= .val v H' nx':=h;cases h;refine over ?_;simp only[execOp,ho,hxr,Instr.next,Sem.run_bind,eE hr hnc,Result.andThen_ok];rfl
   | some m=>
     cases m' with
     | none=>exact hmn.elim
     | some m'=>
       obtain⟨em,hbm,rfl⟩:=hmn;have h:uC H nx r m since last seen= .val v H' nx':=h;unfold uC at h;obtain⟨es,c,hgm,h⟩:=oC h;obtain⟨_,es',hrm,hml⟩:=hH.obj m _ em (show hp H m=some (.map es c)from hgm) hbm;have hncm:∀c' e' f,Obj.map es' c ≠ .cells c' e' f:=λ_ _ _=>by simp
       cases hbad: !seen.isEmpty && !es.isEmpty&&es.all (λe=>Nat.ble last e.born)with
       | true=>rw[hbad]at h;cases h
       | false=>
         rw[hbad]at h;have h:Bb H nx r m since c seen (es.filter λe=> !seen.contains e.born)= .val v H' nx':=h;have hsn:∀b,seen'.contains b=seen.contains b:=λb=>by rw[<- hseen];simp
         have h1:seen'.isEmpty=seen.isEmpty:=by rw[<- hseen];simp
         have h2:es'.isEmpty=es.isEmpty:=by
          have hl:=hml.length;have:es'.toList.isEmpty=es.isEmpty:=by
           cases es with
           | nil=>cases hq:es'.toList with
             | nil=>rfl
             | cons a l=>rw[hq]at hl;simp at hl
           | cons a l=>cases hq:es'.toList with
             | nil=>rw[hq]at hl;simp at hl
             | cons b m=>rfl
          rw[<- this];simp
         have h3:(es'.all λe=>decide (e.born>=last))=es.all (λe=>Nat.ble last e.born):=by
          have:=hml.all (λb=>decide (b>=last));rw[<- Array.all_toList,this];congr 1;funext e;rw[Bool.eq_iff_iff];simp only[decide_eq_true_eq];exact⟨λq=>Nat.ble_eq_true_of_le q,λq=>db q⟩
         have hcond:(!seen'.isEmpty && !es'.isEmpty&&es'.all (λe=>decide (e.born>=last)))=false:=by rw[h1,h2,h3];exact hbad
         have hcond':¬((!seen'.isEmpty && !es'.isEmpty&&es'.all (λe=>decide (e.born>=last)))=true):=by rw[hcond];decide
         have hleft:=hml.filter (λb=> !seen.contains b);have hle:es'.filter (λe=> !seen'.contains e.born)=(es'.toList.filter λe=> !seen.contains e.born).toArray:=by
          apply Array.ext';simp only[Array.toList_filter,hsn]
         generalize hL:(es'.toList.filter λe=> !seen.contains e.born)=L' at hleft hle;generalize hLo:(es.filter λe=> !seen.contains e.born)=L at hleft h;cases hleft with
         | nil=>
           have h:fj.val (.tuple #[.bool false]) H nx= .val v H' nx':=h;cases h;refine over ?_;simp only[execOp,ho,hxr,Instr.next,Sem.run_bind,eE hr hnc,eE hrm hncm,Result.andThen_ok];rw[if_neg hcond',hle];simp[Question.forced]
         | @cons e1 e1' l l' he1 hl=>
           cases l with
           | cons _ _=>cases h
           | nil=>
             cases hl;obtain⟨hlt,h⟩:=dw (show(bif Nat.blt e1.born since then dp (bits r) H (some (.iter (some m) since (seen++[e1.born]) c)) (λH=>fj.val (.tuple #[.bool true,e1.key,e1.val]) H nx)else .bad)= .val v H' nx' from h);rw[aL]at h;cases h;have hlt:=fo hlt;have hb1:=he1.born;have hrun:(execOp ρ o).run P w= .ok (.value (.tuple #[.bool true,e1'.key,e1'.val])) { w with heap:=w.heap.setIfInBounds e.r (.mapIter (some em.r) since (seen'.push e1'.born) c) }:=by
              have c1:¬(since<=e1'.born):=by omega
              have c2:e1'.born<since:=by omega
              simp only[execOp,ho,hxr,Instr.next,Sem.run_bind,eE hr hnc,eE hrm hncm,Result.andThen_ok];rw[if_neg hcond',hle];simp[Question.forced,c1,c2,nD hr hnc]
             refine⟨φ,_,_,_,hrun,.inl rfl,(LR.cons (.flat (.bool true) rfl) (LR.cons he1.key (LR.cons he1.val LR.nil))).tuple,φ.le_refl,?_,b_,by rw[bw];exact zF hb _⟩;rw[bw];exact hH.setObj hgb rfl hb _ ⟨hab,some em.r,seen'.push e1'.born,heap_set hr,by rw[Array.toList_push,hseen,hb1],em,hbm,rfl⟩
theorem qv.find {l l':List MapEntry}(h:qv φ l l')(st:Nat){e:MapEntry}(hf:l.find? (λe=>e.born == st)=some e):∃e',l'.find? (λe=>e.born == st)=some e'/\Y5 φ e e':=by
 induction h with
 | nil=>cases hf
 | @cons a a' l l' ha _ ih=>
   simp only[List.find?_cons,ha.born]at hf ⊢;cases hb:a.born == st with
   | true=>rw[hb]at hf;cases hf;exact⟨a',rfl,ha⟩
   | false=>rw[hb]at hf;exact ih hf
theorem H_ (hH:HR P W φ (hp H) w)(b_:φ.length=nx){x:Operand}(ho:o.op= .entry x)(hE:∀v,bq P tm x=some v->VR φ v (ρ x))
 (h:vQ H nx (bq P tm x)= .val v H' nx'):jR P W φ H w ((execOp ρ o).run P w) v H' nx':=by
 unfold vQ at h;obtain⟨r,off,hx,h⟩:=sx h;obtain⟨h0,h⟩:=dw h;have h0:=beq_eq h0;subst h0;obtain⟨m,since,seen,last,hg,h⟩:=uR h;cases m with
 | none=>cases h
 | some m=>
 rw[ax]at h;obtain⟨st,hst,h⟩:=cu h;obtain⟨es,c,hgm,h⟩:=oC h;obtain⟨hc,h9⟩:=dw h;have hc:=beq_eq hc;subst hc;obtain⟨e,hb,_,hxr⟩:=(hE _ hx).e_;obtain⟨hab,m',seen',hr,hseen,hmn⟩:=hH.obj r _ e (show hp H r=some (.iter (some m) since seen c)from hg) hb;cases m' with
 | none=>exact hmn.elim
 | some m'=>
   obtain⟨em,hbm,rfl⟩:=hmn;obtain⟨_,es',hrm,hml⟩:=hH.obj m _ em (show hp H m=some (.map es c)from hgm) hbm;have hnc:∀c' e' f,Obj.mapIter (some em.r) since seen' c ≠ .cells c' e' f:=λ_ _ _=>by simp
   have hncm:∀c' e' f,Obj.map es' c ≠ .cells c' e' f:=λ_ _ _=>by simp
   have hback:seen'.back? = some st:=by rw[<- hst,<- hseen];simp
   unfold vP at h9;cases hf:es.find? (λe=>e.born == st)with
   | none=>simp only[hf]at h9;cases h9
   | some e1=>
     simp only[hf]at h9;cases h9;obtain⟨e1',hf',he1⟩:=hml.find st hf;have hf2:es'.find? (λe=>e.born == st)=some e1':=by simpa using hf'
     refine⟨φ,_,w,_,?_,.inl rfl,(LR.cons he1.key (LR.cons he1.val LR.nil)).tuple,φ.le_refl,hH,b_,fN.refl _ _⟩;simp[execOp,ho,hxr,Instr.entry,eE hr hnc,eE hrm hncm,hback,hf2]
theorem sB (hH:HR P W φ (hp H) w)(b_:φ.length=nx)(hE:pe P φ tm ρ o.op.operands.toList)(h:ef P H nx tm o= .val v H' nx'):
 jR P W φ H w ((execOp ρ o).run P w) v H' nx':=by
 unfold ef at h;cases ho:o.op with
 | alloc e=>simp only[ho]at h;exact HY hH b_ ho h
 | box e x=>simp only[ho]at h;exact Rf hH b_ ho (λv hv=>hE x (by rw[ho];simp[Op.operands]) v hv) h
 | store t a x=>simp only[ho]at h;exact zB hH b_ ho (by rw[ho]at hE;exact hE) h
 | buildSlice t len ps=>simp only[ho]at h;exact uj hH b_ ho hE h
 | makeSlice t l c=>simp only[ho]at h;exact v_ hH b_ ho (by rw[ho]at hE;exact hE) h
 | makeMap t r=>
   simp only[ho]at h;cases r with
   | none=>exact Bv hH b_ ho h
   | some x=>cases h
 | mapUpdate t m k x=>simp only[ho]at h;exact oD hH b_ ho (by rw[ho]at hE;exact hE) h
 | insert t m k x=>
   simp only[ho]at h;have h2:=oD (o:={ o with op:= .mapUpdate t m k x }) hH b_ rfl (by rw[ho]at hE;exact hE) h;have e:execOp ρ o=execOp ρ { o with op:= .mapUpdate t m k x }:=by simp only[execOp,ho]
   rw[e];exact h2
 | range t x=>simp only[ho]at h;exact HZ hH b_ ho (λv hv=>hE x (by rw[ho];simp[Op.operands]) v hv) h
 | next x b=>simp only[ho]at h;exact MF hH b_ ho (λv hv=>hE x (by rw[ho];simp[Op.operands]) v hv) h
 | entry x=>simp only[ho]at h;exact H_ hH b_ ho (λv hv=>hE x (by rw[ho];simp[Op.operands]) v hv) h
 | defer c=>
   simp only[ho]at h;unfold kM at h;split at h<;>cases h
 | panic x=>
   simp only[ho]at h;unfold Bd at h;split at h<;>cases h
 | call c=>
   simp only[ho]at h;unfold iy at h;split at h
   . unfold zh at h;split at h
     . obtain⟨l,_,h⟩:=cu h;obtain⟨_,h⟩:=dw h;cases h
     . cases h
   . rename_i hc;exact Ge hH b_ hc ho (λx hx v hv=>hE x (by rw[ho];simp[Op.operands,Call.operands,hc];simpa using hx) v hv) h
   . cases h
   . cases h
   . cases h
 | _=>simp only[ho]at h;cases h
theorem Gg {α:Type}{x:Option α}{k:α->fj}{f:FuncId}{l:List Value}(h:af x k .bad= .call f l):∃a,x=some a/\k a= .call f l:=by
 cases x with
 | none=>cases h
 | some a=>exact⟨a,rfl,h⟩
theorem Ia {b:Bool}{x:fj}{f:FuncId}{l:List Value}(h:(bif b then x else .bad)= .call f l):b=true/\x= .call f l:=by
 cases b
 . cases h
 . exact⟨rfl,h⟩
theorem Bw {f:FuncId}(h:lR P f=true):∃fn,P.funcs[f]? = some fn/\fn.body.isSome=true/\(fn.name == "runtime.NumGoroutine")=false:=by
 unfold lR at h;split at h
 . rename_i fn hfn;simp only[Bool.and_eq_true,Bool.not_eq_true']at h;exact⟨fn,hfn,h.1,h.2⟩
 . cases h
theorem oE {f:FuncId}(h:lR P f=true)(args:Array Value)(w:World):(callFunc f args).run P w= .ok (.enter f args) w:=by
 obtain⟨fn,h1,h2,h3⟩:=Bw h;have h2':fn.body.isNone=false:=by cases hb:fn.body<;>simp_all
 simp only[callFunc,Sem.run_bind,run_program,Result.andThen_ok,h1];simp[h3,h2']
theorem zH {c:Call}{fv:Operand}(hE:pe P φ tm ρ (fv::c.args.toList)){f:FuncId}{l:List Value}(h:zh P (bq P tm fv) (qT P tm c.args.toList)= .call f l):
 ∃a' cap',ρ fv= .func (.func f) #[] ⟨cap'⟩/\a'=c.args.toList.map ρ/\LR φ l (a'++cap')/\lR P f=true:=by
 unfold zh at h;split at h
 . rename_i g cap hf;obtain⟨vs,hvs,h⟩:=Gg h;obtain⟨hok,h⟩:=Ia h;cases h;obtain⟨cap',hv',hcap⟩:=(hE fv (by simp) _ hf).HO;have hargs:=pq _ _ (λx hx=>hE x (by simp[hx])) hvs;exact⟨_,cap',hv',rfl,hargs.append hcap,hok⟩
 . cases h
def PL (e:fj):Prop:=match e with
 | .val _ _ _=>True
 | .bad=>True
 | _=>False
theorem di {α:Type}{x:Option α}{k:α->fj}(h:∀a,PL (k a)):PL (af x k .bad):=by
 cases x with
 | none=>trivial
 | some a=>exact h a
theorem dI {b:Bool}{x y:fj}(h:PL x)(h':PL y):PL (bif b then x else y):=by
 cases b
 . exact h'
 . exact h
theorem sC {H:T OB}{nx:Nat}{e:TypeId}{m:Nat}{l:List Value}:PL (gP H nx e m l):=by rw[g_];trivial
theorem nE {t:TypeId}{k:TypeId->Nat->fj}(h:∀e s,PL (k e s)):PL (dt P t k .bad):=by
 unfold dt;split
 . exact di λs=>h _ s
 . trivial
theorem uS {x:Option OB}{k:Nat->T Value->TypeId->fj}(h:∀n t e,PL (k n t e)):PL (dV x k .bad):=by
 unfold dV;split
 . exact h _ _ _
 . trivial
theorem wa {x:Option Value}{k:Nat->Nat->fj}(h:∀a b,PL (k a b)):PL (zc x k .bad):=by
 unfold zc;split
 . exact h _ _
 . trivial
theorem oF {x:Option OB}{k:List MapEntry->Nat->fj}(h:∀a b,PL (k a b)):PL (vN x k .bad):=by
 unfold vN;split
 . exact h _ _
 . trivial
theorem zI {x:Option OB}{k:Option Nat->Nat->List Nat->Nat->fj}(h:∀a b c d,PL (k a b c d)):PL (r8 x k .bad):=by
 unfold r8;split
 . exact h _ _ _ _
 . trivial
theorem zJ {t:TypeId}{k:TypeDesc->TypeId->fj}(h:∀a b,PL (k a b)):PL (na P t k .bad):=by
 unfold na;split
 . exact di λd=>dI (h _ _) trivial
 . trivial
theorem C1 {e:TypeId}{s sl sc xl:Nat}{base:Option Addr}{xs:List Value}:PL (og P H nx e s base sl sc xl xs):=by
 unfold og;split
 . exact dI (dI trivial sC) trivial
 . unfold uf;refine uS λn tr el=>dI ?_ (dI ?_ ?_)
   . unfold Q2;refine dI (di λold=> ?_) trivial;rw[aL];exact sC
   . unfold F4;refine dI ?_ trivial;rw[du,aL,aP]
     trivial
   . unfold qu;exact dI (di λold=>sC) trivial
 . trivial
theorem uT {ts:List TypeId}{l:Option (List Value)}:PL (cO P H nx ts l):=by
 unfold cO;split
 . exact dI (nE λe s=>dI C1 trivial) trivial
 . unfold oh;split
   . exact dI trivial (nE λe s=>di λp=>dI C1 trivial)
   . trivial
theorem C2 {b:Nat}{es:List MapEntry}{c:Nat}{k v:Value}{r:Option (Option (Nat×Value))}:PL (HF H nx b es c k v r):=by
 unfold HF;split
 . rw[aL];trivial
 . rw[aP,aL];trivial
 . trivial
theorem sD {m:Option Nat}{c:Nat}:PL (mG H nx m c):=by unfold mG;rw[aL,aP];trivial
theorem Ib {r m since last:Nat}{seen:List Nat}:PL (uC H nx r m since last seen):=by
 unfold uC;refine oF λes c=>dI trivial ?_;unfold Bb;split
 . trivial
 . refine dI ?_ trivial;rw[aL];trivial
 . trivial
theorem Gh {es:List MapEntry}{st:Nat}:PL (vP H nx es st):=by
 unfold vP;split<;>trivial
theorem sE {c:Call}{f:FuncId}{l:List Value}(h:iy P H nx tm c= .call f l):∃fv,c.callee= .value fv/\zh P (bq P tm fv) (qT P tm c.args.toList)= .call f l:=by
 unfold iy at h;split at h
 . rename_i fv hc;exact⟨fv,hc,h⟩
 . have:=uT (P:=P) (H:=H) (nx:=nx) (ts:=c.argTypes.toList) (l:=qT P tm c.args.toList);rw[h]at this;exact this.elim
 . cases h
 . cases h
 . cases h
theorem Ic (h1:∀c,o.op ≠ .call c)(h2:∀c,o.op ≠ .defer c)(h3:∀x,o.op ≠ .panic x):PL (ef P H nx tm o):=by
 unfold ef;cases ho:o.op with
 | call c=>exact absurd ho (h1 c)
 | defer c=>exact absurd ho (h2 c)
 | panic x=>exact absurd ho (h3 x)
 | alloc e=>
   refine di λl=> ?_;rw[fc];trivial
 | box e x=>
   refine di λl=> ?_;rw[fc];trivial
 | store t a x=>
   refine wa λb off=>di λv=>uS λn tr e=>di λs=>dI ?_ trivial;rw[du,aL];trivial
 | buildSlice t len ps=>
   refine di λvs=>nE λe s=>di λz=>dI (di λcs=> ?_) trivial;rw[fc,aP];trivial
 | makeSlice t a c=>
   show PL (ic P H nx t (bq P tm a) (bq P tm c));unfold ic;split
   . rename_i i j e _ _ _;cases i with
     | negSucc i=>exact trivial
     | ofNat i=>
     cases j with
     | negSucc j=>
       show PL (iS ((i:Nat):Int) (λl=>iS (Int.negSucc j) (λc=>F3 P H nx e l c) .bad) .bad);rw[fm];exact trivial
     | ofNat j=>
     show PL (iS ((i:Nat):Int) (λl=>iS ((j:Nat):Int) (λc=>F3 P H nx e l c) .bad) .bad);rw[fm,fm];unfold F3;split
     . refine dI ?_ trivial;split
       . rw[aL,aP];trivial
       . refine dI ?_ trivial;rw[fc];trivial
     . trivial
   . trivial
 | makeMap t r=>
   cases r with
   | none=>
     show PL (dp (bits nx) H (some (.map [] 0)) λH=>bo (Nat.succ nx) λn=>fj.val (.map (some nx)) H n);rw[aL,aP];trivial
   | some x=>trivial
 | mapUpdate t m k x=>exact zJ λd et=>di λb=>di λk=>di λv=>oF λes c=>C2
 | insert t m k x=>exact zJ λd et=>di λb=>di λk=>di λv=>oF λes c=>C2
 | range t x=>
   refine dI ?_ trivial;split
   . exact sD
   . exact oF λes c=>sD
   . trivial
 | next x b=>
   refine dI trivial (wa λr off=>dI (zI λm s l c=> ?_) trivial);cases m with
   | none=>trivial
   | some m=>exact Ib
 | entry x=>exact wa λr off=>dI (zI λm s l c=>di λm=>di λst=>oF λes c=>dI Gh trivial) trivial
 | _=>trivial
theorem C3 {e:fj}(h:ef P H nx tm o=e)(hp:¬PL e):(∃c,o.op= .call c/\iy P H nx tm c=e)\/(∃c,o.op= .defer c/\kM (iy P H nx tm c)=e)\/
 (∃x,o.op= .panic x/\Bd (bq P tm x)=e):=by
 by_cases h1:∃c,o.op= .call c
 . obtain⟨c,hc⟩:=h1;refine .inl ⟨c,hc,?_⟩;rw[<- h];unfold ef;simp only[hc]
 . by_cases h2:∃c,o.op= .defer c
   . obtain⟨c,hc⟩:=h2;refine .inr (.inl ⟨c,hc,?_⟩);rw[<- h];unfold ef;simp only[hc]
   . by_cases h3:∃x,o.op= .panic x
     . obtain⟨x,hx⟩:=h3;refine .inr (.inr ⟨x,hx,?_⟩);rw[<- h];unfold ef;simp only[hx]
     . have:=Ic (P:=P) (H:=H) (nx:=nx) (tm:=tm) (o:=o) (λc q=>h1 ⟨c,q⟩) (λc q=>h2 ⟨c,q⟩) (λc q=>h3 ⟨c,q⟩);rw[h]at this;exact absurd this hp
theorem Gi {f:Option Value}{l:Option (List Value)}:(∃g a,zh P f l= .call g a)\/zh P f l= .bad:=by
 unfold zh;split
 . cases l with
   | none=>exact .inr rfl
   | some l=>
     rw[ax];rename_i g cap;cases lR P g with
     | true=>exact .inl ⟨_,_,rfl⟩
     | false=>exact .inr rfl
 . exact .inr rfl
theorem nF {c:Call}:(∀f l,iy P H nx tm c ≠ .UC f l)/\(∀v,iy P H nx tm c ≠ .gv v)/\(iy P H nx tm c= .UD->c.callee= .builtin .recover):=by
 unfold iy;split
 . rcases Gi (P:=P) (f:=bq P tm _) (l:=qT P tm c.args.toList)with⟨g,a,h⟩ | h
   . rw[h];exact⟨λ_ _ q=>(nomatch q),λ_ q=>(nomatch q),λq=>(nomatch q)⟩
   . rw[h];exact⟨λ_ _ q=>(nomatch q),λ_ q=>(nomatch q),λq=>(nomatch q)⟩
 . have:=uT (P:=P) (H:=H) (nx:=nx) (ts:=c.argTypes.toList) (l:=qT P tm c.args.toList);refine⟨λf l q=> ?_,λv q=> ?_,λq=> ?_⟩<;>(rw[q]at this;exact this.elim)
 . rename_i hc;exact⟨λ_ _ q=>(nomatch q),λ_ q=>(nomatch q),λ_=>hc⟩
 . exact⟨λ_ _ q=>(nomatch q),λ_ q=>(nomatch q),λq=>(nomatch q)⟩
 . exact⟨λ_ _ q=>(nomatch q),λ_ q=>(nomatch q),λq=>(nomatch q)⟩
theorem C4 {f:FuncId}{l:List Value}(hE:pe P φ tm ρ o.op.operands.toList)(h:ef P H nx tm o= .call f l):
 ∃l',LR φ l l'/\lR P f=true/\∀w,(execOp ρ o).run P w= .ok (.enter f l'.toArray) w:=by
 obtain⟨c,ho,h⟩:∃c,o.op= .call c/\iy P H nx tm c= .call f l:=by
  rcases C3 h (λq=>q)with q | ⟨c,_,q⟩ | ⟨x,_,q⟩
  . exact q
  . unfold kM at q;split at q<;>cases q
  . unfold Bd at q;split at q<;>cases q
 obtain⟨fv,hc,h⟩:=sE h;have hops:o.op.operands.toList=fv::c.args.toList:=by rw[ho];simp[Op.operands,Call.operands,hc]
 rw[hops]at hE;obtain⟨a',cap',hv',rfl,hLR,hok⟩:=zH hE h;refine⟨_,hLR,hok,λw=> ?_⟩;have e1:(c.args.map ρ++⟨cap'⟩:Array Value)=(c.args.toList.map ρ++cap').toArray:=Array.ext' (by simp);simp only[execOp,ho,resolve,hc,hv',Deferred.ofValue,Sem.run_bind,Sem.run_pure,Result.andThen_ok,invoke];simp[oE hok,e1]
def U7 (P:Program)(φ:cK)(d:FuncId×List Value)(d':Deferred):Prop:=∃a' cap',d'={ target:= .fn (.func d.1) ⟨cap'⟩,args:=a' }/\LR φ d.2 (a'.toList++cap')/\lR P d.1=true
theorem U7.mono {φ':cK}(hle:φ.le φ'){d:FuncId×List Value}{d':Deferred}(h:U7 P φ d d'):U7 P φ' d d':=by
 obtain⟨a,b,c,d,e⟩:=h;exact⟨a,b,c,d.mono hle,e⟩
theorem Rh {f:FuncId}{l:List Value}(hE:pe P φ tm ρ o.op.operands.toList)(h:ef P H nx tm o= .UC f l):∃d',U7 P φ (f,l) d'/\∀w,(execOp ρ o).run P w= .ok (.defer d') w:=by
 rcases C3 h (λq=>q)with⟨c,_,q⟩ | ⟨c,ho,q⟩ | ⟨x,_,q⟩
 . exact absurd q (nF.1 f l)
 . unfold kM at q;split at q
   . rename_i g a hq;cases q;obtain⟨fv,hc,hgo⟩:=sE hq;have hops:o.op.operands.toList=fv::c.args.toList:=by rw[ho];simp[Op.operands,Call.operands,hc]
     rw[hops]at hE;obtain⟨a',cap',hv',rfl,hLR,hok⟩:=zH hE hgo;refine⟨_,⟨c.args.map ρ,cap',rfl,by simpa using hLR,hok⟩,λw=> ?_⟩;simp[execOp,ho,resolve,hc,hv',Deferred.ofValue]
   . cases q
 . unfold Bd at q;split at q<;>cases q
theorem Ie {v:Value}(hE:pe P φ tm ρ o.op.operands.toList)(h:ef P H nx tm o= .gv v):∃v',VR φ v v'/\∀w,(execOp ρ o).run P w= .halt (.panic v') w:=by
 rcases C3 h (λq=>q)with⟨c,_,q⟩ | ⟨c,_,q⟩ | ⟨x,ho,q⟩
 . exact absurd q (nF.2.1 v)
 . unfold kM at q;split at q<;>cases q
 . unfold Bd at q;split at q
   . rename_i t u hx;cases q;obtain⟨u',h1,h2⟩:=(hE x (by rw[ho];simp[Op.operands]) _ hx).j9;exact⟨_,.iface h2,λw=>by simp[execOp,ho,h1,Instr.panic]⟩
   . cases q
theorem Ri (h:ef P H nx tm o= .UD)(w:World):(execOp ρ o).run P w= .ok .recover w:=by
 rcases C3 h (λq=>q)with⟨c,ho,q⟩ | ⟨c,_,q⟩ | ⟨x,_,q⟩
 . have hc:=nF.2.2 q;simp[execOp,ho,resolve,hc,invoke,builtin]
 . unfold kM at q;split at q<;>cases q
 . unfold Bd at q;split at q<;>cases q
end ops
end
end
end Go.Ev
namespace Go.Ev
noncomputable section
set_option maxRecDepth 100000
set_option linter.unusedVariables false
set_option linter.unusedSimpArgs false
section
variable {P:Program}{H H':T OB}{tm tm':T Value}
theorem lZ:∀(ps:List (Nat×Operand)),(∀p∈ps,bq P tm' p.2=bq P tm p.2)->parts P tm' ps=parts P tm ps
 | [],_=>rfl
 | p::ps,h=>by simp only[parts,h p (by simp),lZ ps (λq hq=>h q (by simp[hq]))]
theorem pJ:∀(l:List Operand),(∀x∈l,bq P tm' x=bq P tm x)->qT P tm' l=qT P tm l
 | [],_=>rfl
 | x::l,h=>by simp only[qT,h x (by simp),pJ l (λy hy=>h y (by simp[hy]))]
theorem nG {x:Option Operand}(h:∀y∈x.toList,bq P tm' y=bq P tm y):gu P tm' x=gu P tm x:=by
 cases x with
 | none=>rfl
 | some y=>simp only[gu,h y (by simp)]
theorem Ig {o:Oper}(h:∀x∈o.op.operands.toList,bq P tm' x=bq P tm x):rd P H tm' o=rd P H tm o:=by
 unfold rd;cases ho:o.op with
 | move x=>simp only[ho]at h;exact h x (by simp[Op.operands])
 | assign x=>simp only[ho]at h;exact h x (by simp[Op.operands])
 | pick c a b=>
   simp only[ho]at h;show rR (bq P tm' c) (bq P tm' a) (bq P tm' b)=rR (bq P tm c) (bq P tm a) (bq P tm b);rw[h c (by simp[Op.operands]),h a (by simp[Op.operands]),h b (by simp[Op.operands])]
 | load t x=>simp only[ho]at h;show ai P H t (bq P tm' x)=ai P H t (bq P tm x);rw[h x (by simp[Op.operands])]
 | nilCheck x=>simp only[ho]at h;show oe (bq P tm' x)=oe (bq P tm x);rw[h x (by simp[Op.operands])]
 | fieldAddr s x f=>simp only[ho]at h;show ae P s (bq P tm' x) f=ae P s (bq P tm x) f;rw[h x (by simp[Op.operands])]
 | indexAddr t x ix=>
   simp only[ho]at h;show bc P t (bq P tm' x) (bq P tm' ix)=bc P t (bq P tm x) (bq P tm ix);rw[h x (by simp[Op.operands]),h ix (by simp[Op.operands])]
 | extract x i=>simp only[ho]at h;show bk (bq P tm' x) i=bk (bq P tm x) i;rw[h x (by simp[Op.operands])]
 | field t x f=>simp only[ho]at h;show rdField P t (bq P tm' x) f=rdField P t (bq P tm x) f;rw[h x (by simp[Op.operands])]
 | slice t x lo hi mx=>
   have hops:o.op.operands.toList=[x]++lo.toList++hi.toList++mx.toList:=by rw[ho];cases lo<;>cases hi<;>cases mx<;>rfl
   rw[hops]at h;show bA P H t (bq P tm' x) (gu P tm' lo) (gu P tm' hi) (gu P tm' mx)=bA P H t (bq P tm x) (gu P tm lo) (gu P tm hi) (gu P tm mx);rw[h x (by simp),nG (x:=lo) (λy hy=>h y (by simp[hy])),nG (x:=hi) (λy hy=>h y (by simp[hy])),nG (x:=mx) (λy hy=>h y (by simp[hy]))]
 | call c=>
   show rY P tm' o c=rY P tm o c;unfold rY;split
   all_goals first
    | rfl
    | (rename_i hc
       rw[pJ c.args.toList (λx hx=>h x (by rw[ho];simp[Op.operands,Call.operands,hc];simpa using hx))])
 | makeFunc fn a b=>
   show rW fn a.toList (qT P tm' b.toList)=rW fn a.toList (qT P tm b.toList);rw[pJ b.toList (λx hx=>h x (by rw[ho];simp[Op.operands];right;simpa using hx))]
 | typeAssert x xt t ok=>simp only[ho]at h;show iU P (bq P tm' x) t ok=iU P (bq P tm x) t ok;rw[h x (by simp[Op.operands])]
 | lookup t m k ok=>
   simp only[ho]at h;show cg P H t (bq P tm' m) (bq P tm' k) ok=cg P H t (bq P tm m) (bq P tm k) ok;rw[h m (by simp[Op.operands]),h k (by simp[Op.operands])]
 | convert s d x=>simp only[ho]at h;show dk P H s d (bq P tm' x)=dk P H s d (bq P tm x);rw[h x (by simp[Op.operands])]
 | index t x ix=>
   simp only[ho]at h;show cC P t (bq P tm' x) (bq P tm' ix)=cC P t (bq P tm x) (bq P tm ix);rw[h x (by simp[Op.operands]),h ix (by simp[Op.operands])]
 | binOp op t x y yt=>
   simp only[ho]at h;show cZ P H op t (ue x||ue y) (bq P tm' x) (bq P tm' y)=cZ P H op t (ue x||ue y) (bq P tm x) (bq P tm y);rw[h x (by simp[Op.operands]),h y (by simp[Op.operands])]
 | build t ps=>
   simp only[ho]at h;show a9 P t (parts P tm' ps.toList)=a9 P t (parts P tm ps.toList);rw[lZ ps.toList (λp hp=>h p.2 (by
    show p.2∈((ps.toList.map (·.2)).toArray).toList;simp only[List.toList_toArray];exact List.mem_map.2 ⟨p,hp,rfl⟩))]
 | makeInterface t x=>simp only[ho]at h;show kL P t (bq P tm' x)=kL P t (bq P tm x);rw[h x (by simp[Op.operands])]
 | unOp op _ x=>simp only[ho]at h;show iw P op (bq P tm' x)=iw P op (bq P tm x);rw[h x (by simp[Op.operands])]
 | _=>rfl
theorem C5 {o:Oper}(h:oi o.op=false):rd P H' tm o=rd P H tm o:=by
 unfold rd;cases ho:o.op with
 | load t x=>rw[ho]at h;cases h
 | slice t x lo hi mx=>rw[ho]at h;cases h
 | lookup t m k ok=>rw[ho]at h;cases h
 | convert s d x=>rw[ho]at h;cases h
 | binOp op t x y yt=>rw[ho]at h;cases h
 | _=>rfl
theorem uo {ops:Array Oper}{o:Oper}(h:∀p,o.guard=some p->∀d,j6 ops p.1=some d->tm'.get (bits d)=tm.get (bits d)):bX tm' ops o=bX tm ops o:=by
 unfold bX;split
 . rfl
 . rename_i p hp;cases hd:j6 ops p.1 with
   | none=>rfl
   | some d=>
     show lS tm' d p.2=lS tm d p.2;unfold lS;rw[h p hp d hd]
theorem sF {eq:Value->Value->Bool}(h:∀a b,eq a b=true->a=b):∀(l m:List Value),HI eq l m=true->l=m
 | [],[],_=>rfl
 | a::l,b::m,q=>by
   simp only[HI,Bool.and_eq_true]at q;rw[h a b q.1,sF h l m q.2]
 | [],_::_,q=>by cases q
 | _::_,[],q=>by cases q
theorem sG:∀(n:Nat) (v w:Value),F5 n v w=true->v=w
 | 0,_,_,h=>by cases h
 | n+1,v,w,h=>by
   have ih:=sG n;unfold F5 at h;split at h
   all_goals first
    | (cases h;done)
    | rfl
    | (simp only[Bool.and_eq_true,beq_iff_eq,decide_eq_true_eq]at h;simp_all;done)
    | (simp only[Bool.and_eq_true,beq_iff_eq]at h;rw[h.1,ih _ _ h.2];done)
    | (rename_i a b;have:=sF ih _ _ h;rw[Array.toList_inj]at this;rw[this];done)
theorem Gj {v w:Value}(h:gO v w=true):v=w:=by
 unfold gO at h;simp only[Bool.or_eq_true,decide_eq_true_eq]at h;exact h.elim (sG 4 v w) id
theorem bf (v:Value):gO v v=true:=by unfold gO;simp
def sH (ops:Array Oper):List Nat->Prop
 | []=>True
 | i::l=>(∃o,ops[i]? = some o/\∀e∈o.after,Region.binds .any e=true->e.on∉i::l)/\i∉l/\sH ops l
theorem filter_lt {α:Type}(p q:α->Bool)(hpq:∀x,q x=true->p x=true):∀(l:List α) (x:α),x∈l->p x=true->q x=false->(l.filter q).length<(l.filter p).length
 | [],x,h,_,_=>by cases h
 | y::l,x,h,hp,hq=>by
   have hle:(l.filter q).length<=(l.filter p).length:=by
    clear h
    induction l with
    | nil=>simp
    | cons z l ih=>
      by_cases hqz:q z=true
      . rw[List.filter_cons_of_pos hqz,List.filter_cons_of_pos (hpq z hqz)];simp only[List.length_cons];omega
      . rw[List.filter_cons_of_neg hqz]
        by_cases hpz:p z=true
        . rw[List.filter_cons_of_pos hpz];simp only[List.length_cons];omega
        . rw[List.filter_cons_of_neg hpz];exact ih
   by_cases hyx:y=x
   . subst hyx;simp[hp,hq];omega
   . have hx:x∈l:=by
      cases h with
      | head=>exact absurd rfl hyx
      | tail _ h=>exact h
     have ih:=filter_lt p q hpq l x hx hp hq
     by_cases hqy:q y=true
     . simp[hqy,hpq y hqy];exact ih
     . by_cases hpy:p y=true
       . simp[hqy,hpy];omega
       . simp[hqy,hpy];exact ih
def U8 (ops:Array Oper)(listed:Array Bool):List Nat:=(List.range ops.size).filter λi=> !listed.getD i true
theorem Rj (ops:Array Oper)(hac:acyclic ops=true):∀(fuel t:Nat) (listed:Array Bool),listed.size=ops.size->(U8 ops listed).length<=fuel->
 sH ops (Region.linearise.go .any ops fuel t listed [])/\(∀i∈Region.linearise.go .any ops fuel t listed [],listed.getD i true=false)/\
 (∀i,i<ops.size->listed.getD i true=false->i∈Region.linearise.go .any ops fuel t listed []):=by
 intro fuel
 induction fuel with
 | zero=>
   intro t listed _ hu;refine⟨trivial,λi hi=>by simp[Region.linearise.go]at hi,λi hi hl=> ?_⟩;have:i∈U8 ops listed:=List.mem_filter.2 ⟨List.mem_range.2 hi,by simp only[hl];rfl⟩;have:=List.length_pos_of_mem this;omega
 | succ fuel ih=>
   intro t listed lX hu;simp only[Region.linearise.go];change (sH ops (match(Region.ready .any ops listed)[t % (Region.ready .any ops listed).length]? with
    | some i=>Region.linearise.go .any ops fuel (t/(Region.ready .any ops listed).length) (listed.setIfInBounds i true) [i]
    | none=>[].reverse))/\(∀i∈(match(Region.ready .any ops listed)[t % (Region.ready .any ops listed).length]? with
    | some i=>Region.linearise.go .any ops fuel (t/(Region.ready .any ops listed).length) (listed.setIfInBounds i true) [i]
    | none=>[].reverse),_)/\(∀i,_->_->i∈(match(Region.ready .any ops listed)[t % (Region.ready .any ops listed).length]? with
    | some i=>Region.linearise.go .any ops fuel (t/(Region.ready .any ops listed).length) (listed.setIfInBounds i true) [i]
    | none=>[].reverse))
   cases hi:(Region.ready .any ops listed)[t % (Region.ready .any ops listed).length]? with
   | none=>
     have hnil:Region.ready .any ops listed=[]:=by
      cases hr:Region.ready .any ops listed with
      | nil=>rfl
      | cons x xs=>
        rw[hr]at hi;have hlt:t % (x::xs).length<(x::xs).length:=Nat.mod_lt _ (by simp);rw[List.getElem?_eq_getElem hlt]at hi;cases hi
     refine⟨trivial,λi h=>by simp at h,?_⟩;have key:∀n i,i<n->i<ops.size->listed.getD i true=true:=by
      intro n
      induction n with
      | zero=>intro i h;omega
      | succ n ihn=>
        intro i h hisz;cases hl:listed.getD i true with
        | true=>rfl
        | false=>
          exfalso;have:i∈Region.ready .any ops listed:=mem_ready.2 ⟨hl,ops[i],Array.getElem?_eq_getElem hisz,λe he hb=>by
           have h1:=List.all_eq_true.1 hac i (List.mem_range.2 hisz);rw[Array.getElem?_eq_getElem hisz]at h1;have h2:=List.all_eq_true.1 h1 e (by simpa using he);simp only[hb,Bool.not_true,Bool.false_or]at h2;have h3:=fo h2;have h4:=ihn e.on (by omega) (by omega);simpa[Array.getD,show e.on<listed.size by omega]using h4⟩
          rw[hnil]at this;cases this
     intro i hisz hl;rw[key (i+1) i (by omega) hisz]at hl;cases hl
   | some i=>
     have hmem:=List.mem_of_getElem? hi;obtain⟨hl,o,ho,hdeps⟩:=mem_ready.1 hmem;have hisz:i<ops.size:=(Array.getElem?_eq_some_iff.1 ho).1;simp only[];rw[linearise_go_acc,List.reverse_singleton,List.singleton_append];have hset:∀j,j≠i->(listed.setIfInBounds i true).getD j true=listed.getD j true:=λj hj=>getD_set_ne true (Ne.symm hj);have hseti:(listed.setIfInBounds i true).getD i true=true:=by
      simp[Array.getD,show i<listed.size by omega]
     have hlt:(U8 ops (listed.setIfInBounds i true)).length<(U8 ops listed).length:=by
      refine filter_lt _ _ (λx hx=> ?_) _ i (List.mem_range.2 hisz) (by simp only[hl];rfl) (by simp only[hseti];rfl)
      by_cases hxi:x=i
      . subst hxi;rw[hseti]at hx;cases hx
      . rw[hset x hxi]at hx;exact hx
     obtain⟨h1,h2,h3⟩:=ih (t/(Region.ready .any ops listed).length) (listed.setIfInBounds i true) (by simp[lX]) (by omega);have hni:i∉Region.linearise.go .any ops fuel (t/(Region.ready .any ops listed).length) (listed.setIfInBounds i true) []:=λq=>by
      have:=h2 i q;rw[hseti]at this;cases this
     refine⟨⟨⟨o,ho,λe he hb q=> ?_⟩,hni,h1⟩,λj hj=> ?_,λj hj hlj=> ?_⟩
     . have h4:=hdeps e he hb;rcases List.mem_cons.1 q with q | q
       . rw[q]at h4;have h5:=hl;simp only[Array.getD]at h4 h5;split at h4<;>simp_all
       . have h5:=h2 e.on q
         by_cases hei:e.on=i
         . rw[hei,hseti]at h5;cases h5
         . rw[hset _ hei]at h5;simp only[Array.getD]at h4 h5;split at h4<;>simp_all
     . cases hj with
       | head=>exact hl
       | tail _ hj=>
         have h5:=h2 j hj
         by_cases hji:j=i
         . subst hji;exact hl
         . rw[hset _ hji]at h5;exact h5
     . by_cases hji:j=i
       . subst hji;simp
       . exact List.mem_cons_of_mem _ (h3 j hj (by rw[hset _ hji];exact hlj))
theorem Gk (ops:Array Oper)(hac:acyclic ops=true)(t:Nat):sH ops (Region.schedule true ops t)/\∀i,i<ops.size->i∈Region.schedule true ops t:=by
 have hrep:∀i,i<ops.size->(Array.replicate ops.size false).getD i true=false:=λi hi=>by simp[Array.getD,hi]
 have h:=Rj ops hac ops.size t (Array.replicate ops.size false) (by simp) (by
  unfold U8;exact Nat.le_trans (List.length_filter_le _ _) (by simp))
 have e:Region.schedule true ops t=Region.linearise.go .any ops ops.size t (Array.replicate ops.size false) []:=rfl;rw[e];exact⟨h.1,λi hi=>h.2.2 i hi (hrep i hi)⟩
end
end
end Go.Ev
namespace Go.Ev
open Go.RowKit (Below)
noncomputable section
set_option maxRecDepth 100000
set_option linter.unusedVariables false
set_option linter.unusedSimpArgs false
section
variable {P:Program}{W w:World}{φ:cK}{H:T OB}{tm:T Value}{tmps:Array Value}{ops:Array Oper}
structure FB where
 fn:FuncId
 kind:CallKind
 ds:List Deferred
def dM (b:FB)(tmps:Array Value)(todo:List Item):Frame:={ fn:=b.fn,tmps,todo,defers:=b.ds,mode:= .run,kind:=b.kind }
def dX (tmps:Array Value):Operand->Value:=Act.eval ⟨tmps,[]⟩
theorem zK (tmps:Array Value)(ds:List Deferred):Act.eval ⟨tmps,ds⟩=dX tmps:=by funext x;cases x<;>rfl
def kb (tmps:Array Value)(dst:Option Tmp)(v:Value):Array Value:=match dst with
 | some d=>tmps.setIfInBounds d v
 | none=>tmps
theorem Ih (tmps:Array Value)(ds:List Deferred)(dst:Option Tmp)(v:Value):(Act.put ⟨tmps,ds⟩ dst v)=⟨kb tmps dst v,ds⟩:=by cases dst<;>rfl
theorem eR (tmps:Array Value)(dst:Option Tmp)(v:Value):(kb tmps dst v).size=tmps.size:=by cases dst<;>simp[kb]
section steps
variable {fn:FB}{i:Nat}{rest:List Nat}{k:List Item}{cs:List Frame}{w':World}{o:Oper}
theorem nH (ho:ops[i]? = some o)(v:Value):(dM fn tmps (.inRegion ops (i::rest)::k)).finish v=dM fn (kb tmps o.dst v) (.inRegion ops rest::k):=by
 have:=Frame.finish_at (dM fn #[] []) ⟨tmps,fn.ds⟩ ops i rest k v;rw[ho]at this;rw[show((some o:Option Oper).bind (·.dst))=o.dst from rfl,Ih]at this;exact this
theorem By (ho:ops[i]? = some o)(hw:Region.wanted o (yielded ops tmps)=true):
 stepG P true { frame:=dM fn tmps (.inRegion ops (i::rest)::k),callers:=cs,status:= .running,dying:=none } w=
  stepG.apply P true (dM fn tmps (.inRegion ops (i::rest)::k)) cs none (execOp (dX tmps) o) w:=by
 have:=stepG_op (P:=P) (b:=dM fn #[] []) (a:=⟨tmps,fn.ds⟩) (cs:=cs) (w:=w) (k:=k) (rest:=rest) ho hw;rw[zK]at this;exact this
theorem fq (ho:ops[i]? = some o)(hw:Region.wanted o (yielded ops tmps)=true){v:Value}(hr:(execOp (dX tmps) o).run P w= .ok (.value v) w'):
 step P (lone (dM fn tmps (.inRegion ops (i::rest)::k)) cs w)= .next (lone (dM fn (kb tmps o.dst v) (.inRegion ops rest::k)) cs w'):=
 step_lone_go (by rw[By ho hw,<- nH ho];simp[stepG.apply,hr])
theorem sI (ho:ops[i]? = some o)(hw:Region.wanted o (yielded ops tmps)=true)(hr:(execOp (dX tmps) o).run P w= .ok .skip w'):
 step P (lone (dM fn tmps (.inRegion ops (i::rest)::k)) cs w)= .next (lone (dM fn (kb tmps o.dst undef) (.inRegion ops rest::k)) cs w'):=
 step_lone_go (by rw[By ho hw,<- nH ho];simp[stepG.apply,hr])
theorem kU (ho:ops[i]? = some o)(hw:Region.wanted o (yielded ops tmps)=true){f:FuncId}{args:Array Value}(hr:(execOp (dX tmps) o).run P w= .ok (.enter f args) w'):
 step P (lone (dM fn tmps (.inRegion ops (i::rest)::k)) cs w)=
  .next (lone (Frame.enter P f args .normal) (dM fn tmps (.inRegion ops (i::rest)::k)::cs) w'):=
 step_lone_go (by rw[By ho hw];simp[stepG.apply,hr,dM])
theorem Ii (ho:ops[i]? = some o)(hw:Region.wanted o (yielded ops tmps)=true){d:Deferred}(hr:(execOp (dX tmps) o).run P w= .ok (.defer d) w'):
 step P (lone (dM fn tmps (.inRegion ops (i::rest)::k)) cs w)= .next (lone (dM ⟨fn.fn,fn.kind,d::fn.ds⟩ (kb tmps o.dst undef) (.inRegion ops rest::k)) cs w'):=
 step_lone_go (by
  rw[By ho hw,<- nH (fn:=⟨fn.fn,fn.kind,d::fn.ds⟩) ho];simp only[stepG.apply,Sem.runT_eq,hr,GStep.bare_after];rfl)
theorem zL (ho:ops[i]? = some o)(hw:Region.wanted o (yielded ops tmps)=true){v:Value}(hr:(execOp (dX tmps) o).run P w= .halt (.panic v) w'):
 step P (lone (dM fn tmps (.inRegion ops (i::rest)::k)) cs w)= .next (lone { dM fn tmps (.inRegion ops (i::rest)::k)with mode:= .panicking [{ v,recovered:=false }] } cs w'):=
 step_lone_go (by
  rw[By ho hw];simp only[stepG.apply,Sem.runT_eq,hr,GStep.bare_after];rfl)
theorem uq (ho:ops[i]? = some o)(hw:Region.wanted o (yielded ops tmps)=true)(hr:(execOp (dX tmps) o).run P w= .ok .recover w')
 (ht:tryRecover (dM fn tmps (.inRegion ops (i::rest)::k)) cs=none):
 step P (lone (dM fn tmps (.inRegion ops (i::rest)::k)) cs w)= .next (lone (dM fn (kb tmps o.dst .nilIface) (.inRegion ops rest::k)) cs w'):=
 step_lone_go (by
  rw[By ho hw,<- nH ho];have ht':tryRecover { fn:=fn.fn,tmps,todo:= .inRegion ops (i::rest)::k,defers:=fn.ds,mode:= .run,kind:=fn.kind } cs=none:=ht;simp[stepG.apply,hr,dM,ht'])
theorem ur (ho:ops[i]? = some o)(hw:Region.wanted o (yielded ops tmps)=true)(hr:(execOp (dX tmps) o).run P w= .ok .recover w'){v:Value}{cs':List Frame}
 (ht:tryRecover (dM fn tmps (.inRegion ops (i::rest)::k)) cs=some (v,cs')):
 step P (lone (dM fn tmps (.inRegion ops (i::rest)::k)) cs w)= .next (lone (dM fn (kb tmps o.dst v) (.inRegion ops rest::k)) cs' w'):=
 step_lone_go (by
  rw[By ho hw,<- nH ho];have ht':tryRecover { fn:=fn.fn,tmps,todo:= .inRegion ops (i::rest)::k,defers:=fn.ds,mode:= .run,kind:=fn.kind } cs=some (v,cs'):=ht;simp[stepG.apply,hr,dM,ht'])
theorem sJ (ho:ops[i]? = some o)(hw:Region.wanted o (yielded ops tmps)=false):
 step P (lone (dM fn tmps (.inRegion ops (i::rest)::k)) cs w)= .next (lone (dM fn (kb tmps o.dst undef) (.inRegion ops rest::k)) cs w):=by
 have:=step_op_skip (P:=P) (b:=dM fn #[] []) (a:=⟨tmps,fn.ds⟩) (k:=k) (cs:=cs) (w:=w) (ops:=ops) (i:=i) (rest:=rest) (by simp[ho,hw]);rw[ho,show((some o:Option Oper).bind (·.dst))=o.dst from rfl,Ih]at this;exact this
end steps
def zM (φ:cK)(M:Nat->Prop)(tm:T Value)(tmps:Array Value):Prop:=∀t v,tm.get (bits t)=some v->M t\/∃v',tmps[t]? = some v'/\VR φ v v'
theorem zM.mono {ψ:cK}{M:Nat->Prop}(hle:φ.le ψ)(h:zM φ M tm tmps):zM ψ M tm tmps:=λt v q=>(h t v q).imp id λ⟨v',a,b⟩=>⟨v',a,b.mono hle⟩
theorem wb {M:Nat->Prop}(hG:∀g,g<P.globals.size->∃e:iz,φ[g]? = some (some e)/\e.r=g)(h:zM φ M tm tmps){l:List Operand}(hl:∀t,Operand.tmp t∈l->¬M t):pe P φ tm (dX tmps) l:=by
 intro x hx v hv;cases x with
 | tmp t=>
   rcases h t v hv with q | ⟨v',h1,h2⟩
   . exact absurd q (hl t hx)
   . have:dX tmps (.tmp t)=v':=by
      simp only[dX,Act.eval,Array.getD_eq_getD_getElem?,h1,Option.getD_some]
     rw[this];exact h2
 | const c=>
   have hv:(bif flat c then some c else none)=some v:=hv;obtain⟨h1,h2⟩:=aH hv;cases h2;exact .flat _ h1
 | global g=>
   obtain⟨h1,h2⟩:=aH (show(bif Nat.blt g P.globals.size then some (Value.pointer (some ⟨g,0,none⟩))else none)=some v from hv);cases h2;obtain⟨e,h3,h4⟩:=hG g (fo h1);have:dX tmps (.global g)= .pointer (some ⟨e.r,0,none⟩):=by rw[h4];rfl
   rw[this];exact .ptr h3
 | func f=>cases hv;exact .flat _ rfl
theorem pK {M:Nat->Prop}(h:zM φ M tm tmps){o:Oper}(hl:∀p,o.guard=some p->∀d,j6 ops p.1=some d->¬M d){b:Bool}
 (hw:bX tm ops o=some b):Region.wanted o (yielded ops tmps)=b:=by
 unfold bX at hw;unfold Region.wanted;split at hw
 . rename_i hg;rw[hg];cases hw;rfl
 . rename_i p hg;obtain⟨j,want⟩:=p;rw[hg];obtain⟨d,hd,hy⟩:=ar hw;have hM:=hl (j,want) hg d hd;have hd':(ops[j]?).bind (·.dst)=some d:=by
    unfold j6 at hd;cases hj:ops[j]? with
    | none=>rw[hj]at hd;cases hd
    | some q=>rw[hj]at hd;exact hd
   show(yielded ops tmps j == some want)=b;unfold lS at hy;split at hy
   . rename_i x hx;cases hy;rcases h d _ hx with q | ⟨v',h1,h2⟩
     . exact absurd q hM
     . have:=h2.al rfl;subst this;have e:yielded ops tmps j=some x:=by
        unfold yielded;rw[hd'];simp only[Option.bind_some,h1]
       rw[e];cases x<;>cases want<;>rfl
   . rename_i c hx;cases hy;rcases h d _ hx with q | ⟨v',h1,h2⟩
     . exact absurd q hM
     . obtain⟨c',rfl,_⟩:=h2.uK;have e:yielded ops tmps j=none:=by
        unfold yielded;rw[hd'];simp only[Option.bind_some,h1]
       rw[e];rfl
   . cases hy
def cG (tm:T Value)(dst:Option Tmp)(v:Value):T Value:=match dst with
 | some d=>set tm (bits d) (some v)
 | none=>tm
theorem gq (tm:T Value)(dst:Option Tmp)(v:Value)(t:Nat):(cG tm dst v).get (bits t)=if dst=some t then some v else tm.get (bits t):=by
 cases dst with
 | none=>rfl
 | some d=>
   show(set tm (bits d) (some v)).get (bits t)=_;rw[get_at]
   by_cases h:t=d
   . subst h;simp
   . rw[if_neg h,if_neg (by simp;exact λq=>h q.symm)]
theorem pQ (tm:T Value)(dst:Option Tmp)(v:Value)(x:Operand)(h:∀d,dst=some d->x ≠ .tmp d):bq P (cG tm dst v) x=bq P tm x:=by
 cases x with
 | tmp t=>
   show(cG tm dst v).get (bits t)=tm.get (bits t);rw[gq,if_neg (λq=>h t q rfl)]
 | _=>rfl
theorem zN {tmps:Array Value}{dst:Option Tmp}{v:Value}{t:Nat}(h:∀d,dst=some d->d<tmps.size):
 (kb tmps dst v)[t]? = if dst=some t then some v else tmps[t]? := by
 cases dst with
 | none=>rfl
 | some d=>
   show(tmps.setIfInBounds d v)[t]? = _
   by_cases ht:d=t
   . subst ht;rw[Array.getElem?_setIfInBounds_self_of_lt (h d rfl)];simp
   . rw[Array.getElem?_setIfInBounds_ne ht,if_neg (by simpa using ht)]
theorem zM.put {M M':Nat->Prop}(h:zM φ M tm tmps){dst:Option Tmp}{v v':Value}(hd:∀d,dst=some d->d<tmps.size)(hv:VR φ v v')(hM:∀t,M t->dst≠some t->M' t):
 zM φ M' (cG tm dst v) (kb tmps dst v'):=by
 intro t u hu;rw[gq]at hu;rw[zN hd]
 by_cases ht:dst=some t
 . rw[if_pos ht]at hu ⊢;cases hu;exact .inr ⟨v',rfl,hv⟩
 . rw[if_neg ht]at hu ⊢;exact(h t u hu).imp (λq=>hM t q ht) id
def U9 (P:Program)(tm:T Value)(o:Op)(e:TypeId)(l:List Value)(mk:Nat->Value):Prop:=
 (o= .alloc e/\bT P e=some l/\mk=lz)\/
 (∃(t:TypeId) (len:Nat) (ps:Array (Nat×Operand)) (vs:List (Nat×Value)) (s:Nat) (z:List Value) (cells:Array Value),o= .buildSlice t len ps/\parts P tm ps.toList=some vs/\P.underlying t=some (.slice e)/\aN P e=some s/\bT P e=some z/\
  (Nat.ble (len*s) 16777216&&Nat.blt 0 (len*s)&&Nat.blt 0 z.length)=true/\Instr.fill (λi=>some (i*s,s)) (bH z (len*s)) vs=some cells/\l=cells.toList/\mk=λnx=> .slice (some ⟨nx,0,none⟩) len len)
theorem U_ {o:Oper}{nx:Nat}{H':T OB}(hal:rZ o.op=true){v:Value}{nx':Nat}(h:ef P H nx tm o= .val v H' nx'):∃e l mk,U9 P tm o.op e l mk/\v=mk nx/\H'=set H (bits nx) (some (dq l e))/\nx'=nx+1:=by
 unfold ef at h;split at h
 . rename_i e he;unfold cD at h;obtain⟨l,hz,h⟩:=cu h;rw[fc]at h;cases h;exact⟨e,l,lz,.inl ⟨he,hz,rfl⟩,rfl,rfl,rfl⟩
 . rename_i he;rw[he]at hal;cases hal
 . rename_i he;rw[he]at hal;cases hal
 . rename_i t len ps he;unfold aJ at h;obtain⟨vs,hvs,h⟩:=cu h;obtain⟨e,s,hu,hs,h⟩:=jB h;obtain⟨z,hz,h⟩:=cu h;obtain⟨hc,h⟩:=dw h;obtain⟨cells,hf,h⟩:=cu h;rw[fc,aP]at h;cases h;exact⟨e,_,_,.inr ⟨t,len,ps,vs,s,z,cells,he,hvs,hu,hs,hz,hc,hf,rfl,rfl⟩,rfl,rfl,rfl⟩
 all_goals first
  | (rename_i he;rw[he]at hal;cases hal)
  | cases h
theorem Rk {o:Oper}{ρ:Operand->Value}{e:TypeId}{l:List Value}{mk:Nat->Value}(hE:pe P φ tm ρ o.op.operands.toList)(h:U9 P tm o.op e l mk):
 ∃(l':List Value) (mk':Addr->Value),LR φ l l'/\(execOp ρ o).run P w= .ok (.value (mk' ⟨w.heap.size,0,none⟩)) (w.alloc (.cells l'.toArray e))/\∀(ψ:cK) (k:Nat) (en:iz),ψ[k]? = some (some en)->VR ψ (mk k) (mk' ⟨en.r,0,none⟩):=by
 rcases h with⟨ho,hz,rfl⟩ | ⟨t,len,ps,vs,s,z,cells,ho,hvs,hu,hs,hz,hc,hf,rfl,rfl⟩
 . obtain⟨i,z,hi',hz',hl,hfl⟩:=gU hz;refine⟨l,λa=> .pointer (some a),LR.of_flat hfl,?_,fun ψ k en hk=> .ptr hk⟩;have hrun:(execOp ρ o).run P w= .ok (.value (.pointer (some ⟨w.heap.size,0,none⟩))) (w.alloc (.cells z.cells e)):=by
    simp[execOp,ho,Instr.alloc,zeroValue,typeInfo,hi',hz',newVar,newRow]
   rw[hrun,<- hl]
 . simp only[Bool.and_eq_true]at hc;have h1:=db hc.1.1;have h2:=fo hc.1.2;obtain⟨i,z',hi,hz',hl,hfl⟩:=gU hz;have hp:PR φ vs (ps.toList.map λp=>(p.1,ρ p.2)):=ow ps.toList vs (λp hp=>hE p.2 (by
    rw[ho];show p.2∈((ps.toList.map (·.2)).toArray).toList;exact List.mem_map.2 ⟨p,hp,rfl⟩)) hvs
   obtain⟨cells',hf',hLR⟩:=rj (λi=>some (i*s,s)) hp _ (bH z (len*s)) cells (LR.of_flat (oz hfl _)) hf;refine⟨cells'.toList,λa=> .slice (some a) len len,hLR,?_,fun ψ k en hk=> .slice hk (.inl ⟨?_,rfl⟩)⟩
   . have hzc:z.toArray=z'.cells:=by rw[<- hl]
     have hf'':Instr.fill (λi=>some (i*s,s)) (Array.map (λx=>z'.cells[x%z'.cells.size]!) (Array.range (len*s))) (ps.toList.map λp=>(p.1,ρ p.2))=some cells':=by
      rw[<- hzc];exact hf'
     have e24:(2:Nat)^24=16777216:=by decide
     have hne:¬(len*s>2^24):=by rw[e24];omega
     have hne0:¬(len*s=0):=by omega
     simp only[execOp,ho,Instr.buildSlice,Sem.run_bind,a_ hu,Result.andThen_ok,ct hs,if_neg hne,if_neg hne0,Sem.run_pure];have hzr:(zeroValue e).run P w= .ok z' w:=by simp[zeroValue,typeInfo,hi,hz']
     simp[hzr,hf'',newRow]
   . have:len<=len*s:=Nat.le_mul_of_pos_right len (Nat.pos_of_ne_zero (λq=>by rw[q]at h2;simp at h2));unfold eO;omega
theorem uU {tm tm':T Value}{o:Op}{e:TypeId}{l:List Value}{mk:Nat->Value}(hx:∀x∈o.operands.toList,bq P tm' x=bq P tm x)(h:U9 P tm o e l mk):U9 P tm' o e l mk:=by
 rcases h with h | ⟨t,len,ps,vs,s,z,cells,ho,hvs,h⟩
 . exact .inl h
 . refine .inr ⟨t,len,ps,vs,s,z,cells,ho,?_,h⟩;rw[<- hvs];refine lZ _ λp hp=>hx p.2 ?_;rw[ho];show p.2∈((ps.toList.map (·.2)).toArray).toList;exact List.mem_map.2 ⟨p,hp,rfl⟩
def zO (P:Program)(φ:cK)(H:T OB)(tm:T Value)(ops:Array Oper)(κ:Nat->Nat)(lo hi:Nat)(p:Nat)(o:Oper):Prop:=
 (bX tm ops o=some false/\∀d,o.dst=some d->tm.get (bits d)=some undef)\/
 (bX tm ops o=some true/\Ba o.op=true/\∃u,(∀d,o.dst=some d->tm.get (bits d)=some u)/\(oi o.op=false->rd P H tm o=some u))\/
 (bX tm ops o=some true/\rZ o.op=true/\∃e l mk,U9 P tm o.op e l mk/\φ[κ p]? = some none/\hp H (κ p)=some (dq l e)/\lo<=κ p/\κ p<hi/\
  ∀d,o.dst=some d->tm.get (bits d)=some (mk (κ p)))
def Mask (ops:Array Oper)(done π:List Nat)(t:Nat):Prop:=∃p,p∈π/\p∈done/\j6 ops p=some t
structure fW (P:Program)(φ:cK)(H:T OB)(tm:T Value)(tmps:Array Value)(ops:Array Oper)(done kH:List Nat)(pl:List (Nat×List Nat))(π:List Nat)(κ:Nat->Nat)(lo hi:Nat):Prop where
 sa:ug ops=true
 ac:acyclic ops=true
 Gl:gT ops (kO ops) done kH pl=true
 Mf:sH ops π
 todo:∀i,i<ops.size->i∉done->i∈π
 closed:∀i,i∉π->∀o,ops[i]? = some o->∀e∈o.after,Region.binds .any e=true->e.on∉π
 ready:∀i,i∈done->∀o,ops[i]? = some o->e7 ops done o=true
 tr:zM φ (Mask ops done π) tm tmps
 MG:∀i o d,ops[i]? = some o->o.dst=some d->i∈done->d<tmps.size
 prom:∀p,p∈π->p∈done->∀o,ops[p]? = some o->zO P φ H tm ops κ lo hi p o
 kH:∀p,p∈π->p∈done->∀o,ops[p]? = some o->oi o.op=true->p∈kH
 inj:∀p q,p∈π->p∈done->q∈π->q∈done->∀o o',ops[p]? = some o->ops[q]? = some o'->rZ o.op=true->rZ o'.op=true->
  bX tm ops o=some true->bX tm ops o'=some true->κ p=κ q->p=q
 own:∀p,p∈π->p∈done->p∉lA ops
def l4 (P:Program)(H:T OB)(tm:T Value)(ops:Array Oper)(done π:List Nat):Prop:=
 ∀p,p∈π->p∈done->∀o,ops[p]? = some o->oi o.op=true->bX tm ops o=some true->∃u,rd P H tm o=some u/\∀d,o.dst=some d->tm.get (bits d)=some u
theorem iY {o:Oper}{j:Nat}:direct o j=true↔∃e∈o.after,Region.binds .any e=true/\e.on=j:=by
 unfold direct;rw[List.any_eq_true];constructor
 . rintro⟨e,he,h⟩;simp only[Bool.and_eq_true,beq_iff_eq]at h;exact⟨e,by simpa using he,h.1,h.2⟩
 . rintro⟨e,he,h1,h2⟩;exact⟨e,by simpa using he,by simp[h1,h2]⟩
theorem zP (hs:ug ops=true){i j:Nat}{o q:Oper}{d:Tmp}(hi:ops[i]? = some o)(hj:ops[j]? = some q)(hd:q.dst=some d)(hl:d∈o.looksAt ops):direct o j=true\/direct q i=true:=by
 have h1:=List.all_eq_true.1 hs i (List.mem_range.2 (Array.getElem?_eq_some_iff.1 hi).1);have h2:=List.all_eq_true.1 h1 j (List.mem_range.2 (Array.getElem?_eq_some_iff.1 hj).1);simp only[hi,hj,hd,Bool.and_eq_true,Bool.or_eq_true,Bool.not_eq_true']at h2;rcases h2.1 with(h3 | h3) | h3
 . have h4:(o.looksAt ops).contains d=true:=by simpa using hl
   rw[h3]at h4;cases h4
 . exact .inl h3
 . exact .inr h3
theorem zQ {i j:Nat}(hn:j∉lA ops){o q:Oper}{d:Tmp}(hi:ops[i]? = some o)(hj:ops[j]? = some q)(hd:q.dst=some d)(hl:d∈o.looksAt ops):direct o j=true:=by
 cases h:direct o j with
 | true=>rfl
 | false=>
   refine absurd ?_ hn;unfold lA;rw[List.mem_filter];refine⟨List.mem_range.2 (Array.getElem?_eq_some_iff.1 hj).1,?_⟩;simp only[hj,hd];rw[List.any_eq_true];refine⟨i,List.mem_range.2 (Array.getElem?_eq_some_iff.1 hi).1,?_⟩;simp only[hi,h];have h4:(o.looksAt ops).contains d=true:=by simpa using hl
   rw[h4];rfl
theorem Rm (hs:ug ops=true){i j:Nat}{o q:Oper}{d:Tmp}(hi:ops[i]? = some o)(hj:ops[j]? = some q)(hd:q.dst=some d)(hne:i≠j):o.dst≠some d:=by
 have h1:=List.all_eq_true.1 hs i (List.mem_range.2 (Array.getElem?_eq_some_iff.1 hi).1);have h2:=List.all_eq_true.1 h1 j (List.mem_range.2 (Array.getElem?_eq_some_iff.1 hj).1);simp only[hi,hj,hd,Bool.and_eq_true,Bool.or_eq_true,Bool.not_eq_true',beq_iff_eq,bne_iff_ne]at h2;exact h2.2.resolve_left hne
theorem l5 {o:Oper}{t:Nat}(h:Operand.tmp t∈o.op.operands.toList):t∈o.looksAt ops:=by
 unfold Oper.looksAt;exact List.mem_append_left _ (List.mem_filterMap.2 ⟨.tmp t,h,rfl⟩)
theorem l6 {o:Oper}{p:Nat×Bool}{d:Tmp}(hg:o.guard=some p)(hd:j6 ops p.1=some d):d∈o.looksAt ops:=by
 unfold Oper.looksAt;refine List.mem_append_right _ ?_;obtain⟨j,b⟩:=p;rw[hg];have hd':(ops[j]?).bind (·.dst)=some d:=by
  unfold j6 at hd;cases hj:ops[j]? with
  | none=>rw[hj]at hd;cases hd
  | some q=>rw[hj]at hd;exact hd
 simp only[hd',Option.toList_some,List.mem_singleton]
theorem sK {ops:Array Oper}{p t:Nat}(h:j6 ops p=some t):∃q,ops[p]? = some q/\q.dst=some t:=by
 unfold j6 at h;cases hj:ops[p]? with
 | none=>rw[hj]at h;cases h
 | some q=>rw[hj]at h;exact⟨q,rfl,h⟩
theorem mJ {q:Nat}{π:List Nat}(hlin:sH ops (q::π)){done:List Nat}(hown:∀p,p∈q::π->p∈done->p∉lA ops){o:Oper}(ho:ops[q]? = some o){t:Nat}(ht:t∈o.looksAt ops):¬Mask ops done (q::π) t:=by
 rintro⟨p,hp,hpd,hd⟩;obtain⟨oq,h1,h2⟩:=sK hd;have h3:=iY.1 (zQ (hown p hp hpd) ho h1 h2 ht);obtain⟨e,he,hb,hon⟩:=h3;obtain⟨⟨o',ho',hdeps⟩,_⟩:=hlin;rw[ho]at ho';cases ho';exact hdeps e he hb (by rw[hon];exact hp)
section
variable {done kH:List Nat}{pl:List (Nat×List Nat)}{π:List Nat}{κ:Nat->Nat}{lo hi:Nat}{fn:FB}{k:List Item}{cs:List Frame}
theorem C6 {op:Op}(h:rZ op=true):Ba op=false:=by
 cases op<;>first | rfl | cases h
theorem MH {op:Op}(h:rZ op=true):oi op=false:=by
 cases op<;>first | rfl | cases h
theorem Ij {j:Nat}(h:j∉kO ops):j∉lA ops:=λq=>h (by
 unfold kO;split
 . exact List.mem_append_left _ q
 . exact q)
theorem Gm (hH:HR P W φ (hp H) w){q:Nat}(hD:fW P φ H tm tmps ops done kH pl (q::π) κ lo hi)(hL:l4 P H tm ops done (q::π))(hq:q∈done):
 ∃φ' tmps' w',step P (lone (dM fn tmps (.inRegion ops (q::π)::k)) cs w)= .next (lone (dM fn tmps' (.inRegion ops π::k)) cs w')/\
  φ.le φ'/\HR P W φ' (hp H) w'/\φ'.length=φ.length/\(∀j,j<lo->φ[j]? = some none->φ'[j]? = some none)/\
  fW P φ' H tm tmps' ops done kH pl π κ lo hi/\l4 P H tm ops done π/\tmps'.size=tmps.size:=by
 obtain⟨⟨o,ho,hdeps⟩,hnq,hlin⟩:=hD.Mf;have hop:pe P φ tm (dX tmps) o.op.operands.toList:=wb hH.gl hD.tr λt ht=>mJ hD.Mf hD.own ho (l5 ht);have hgd:∀b,bX tm ops o=some b->Region.wanted o (yielded ops tmps)=b:=λb hb=>pK hD.tr (λp hp d hd=>mJ hD.Mf hD.own ho (l6 hp hd)) hb;have hd:∀d,o.dst=some d->d<tmps.size:=λd h=>hD.MG q o d ho h hq;have rest:∀(ψ:cK) (u u':Value),φ.le ψ->(∀d,o.dst=some d->tm.get (bits d)=some u)->VR ψ u u'->
  (∀p,p∈π->p∈done->∀o',ops[p]? = some o'->zO P ψ H tm ops κ lo hi p o')->fW P ψ H tm (kb tmps o.dst u') ops done kH pl π κ lo hi:=by
  intro ψ u u' hle hu hv hp;refine⟨hD.sa,hD.ac,hD.Gl,hlin,λi hi hn=> ?_,λi hi x hx e he hb=> ?_,hD.ready,λt v hv'=> ?_,λi x d hx hxd hi=>by rw[eR];exact hD.MG i x d hx hxd hi,hp,
   λp hp=>hD.kH p (List.mem_cons_of_mem _ hp),λp p' hp hpd hp' hpd'=>hD.inj p p' (List.mem_cons_of_mem _ hp) hpd (List.mem_cons_of_mem _ hp') hpd',λp hp hpd=>hD.own p (List.mem_cons_of_mem _ hp) hpd⟩
  . rcases List.mem_cons.1 (hD.todo i hi hn)with h | h
    . subst h;exact absurd hq hn
    . exact h
  . by_cases hiq:i=q
    . subst hiq;rw[ho]at hx;cases hx;exact λh=>hdeps e he hb (List.mem_cons_of_mem _ h)
    . exact λh=>hD.closed i (λh=>(List.mem_cons.1 h).elim hiq hi) x hx e he hb (List.mem_cons_of_mem _ h)
  . rw[zN hd]
    by_cases ht:o.dst=some t
    . rw[if_pos ht];rw[hu t ht]at hv';cases hv';exact .inr ⟨u',rfl,hv⟩
    . rw[if_neg ht];rcases hD.tr t v hv' with⟨p,hp,hpd,hpt⟩ | ⟨v',a,b⟩
      . rcases List.mem_cons.1 hp with h | h
        . subst h;obtain⟨x,hx,hxt⟩:=sK hpt;rw[ho]at hx;cases hx;exact absurd hxt ht
        . exact .inl ⟨p,h,hpd,hpt⟩
      . exact .inr ⟨v',a,b.mono hle⟩
 have hL':l4 P H tm ops done π:=λp hp=>hL p (List.mem_cons_of_mem _ hp);have hprom:∀p,p∈π->p∈done->∀o',ops[p]? = some o'->zO P φ H tm ops κ lo hi p o':=λp hp=>hD.prom p (List.mem_cons_of_mem _ hp);rcases hD.prom q (by simp) hq o ho with⟨hw,hu⟩ | ⟨hw,hrd,u,hu,hnl⟩ | ⟨hw,hal,e,l,mk,hz,hk,hkb,nh,hhi,hu⟩
 . exact⟨φ,_,w,sJ ho (hgd _ hw),φ.le_refl,hH,rfl,λ_ _ h=>h,rest φ undef undef φ.le_refl hu (.flat _ rfl) hprom,hL',eR _ _ _⟩
 . have hr:∃u,rd P H tm o=some u/\∀d,o.dst=some d->tm.get (bits d)=some u:=by
    cases hl:oi o.op with
    | false=>exact⟨u,hnl hl,hu⟩
    | true=>exact hL q (by simp) hq o ho hl hw
   obtain⟨u,hr,hu⟩:=hr;obtain⟨u',hv,hrun⟩:=sw hH hop hr;exact⟨φ,_,w,fq ho (hgd _ hw) hrun,φ.le_refl,hH,rfl,λ_ _ h=>h,rest φ u u' φ.le_refl hu hv hprom,hL',eR _ _ _⟩
 . obtain⟨l',mk',hLR,hrun,hmk⟩:=Rk hop hz;have hob:=v9 (P:=P) (W:=W) (w:=w) hLR e e #[] (es:=(aN P e).getD 0) (λy hy=>by rw[hy];rfl) hH.below;rw[Array.append_empty]at hob;have hb:=hH.bind hk hkb (.cells l'.toArray e) hob;refine⟨_,_,_,fq ho (hgd _ hw) hrun,pz hk _,hb,by simp,λj hj h=> ?_,rest _ (mk (κ q)) _ (pz hk _) hu (hmk _ _ _ (ME hk _)) ?_,hL',eR _ _ _⟩
   . rw[List.getElem?_set_ne (by omega)];exact h
   . intro p hp hpd o' ho';rcases hprom p hp hpd o' ho' with h | h | ⟨hw',hal',e',l',mk2,hz'',hk',hkb',hlo',hhi',hu'⟩
     . exact .inl h
     . exact .inr (.inl h)
     . refine .inr (.inr ⟨hw',hal',e',l',mk2,hz'',?_,hkb',hlo',hhi',hu'⟩);rw[List.getElem?_set_ne]
       . exact hk'
       . intro heq;have:=hD.inj q p (by simp) hq (List.mem_cons_of_mem _ hp) hpd o o' ho ho' hal hal' hw hw' heq;subst this;exact hnq hp
theorem sL:∀(π:List Nat) (φ:cK) (tmps:Array Value) (w:World),HR P W φ (hp H) w->fW P φ H tm tmps ops done kH pl π κ lo hi->l4 P H tm ops done π->
 ∃φ' tmps' w' π',Steps P (lone (dM fn tmps (.inRegion ops π::k)) cs w) (lone (dM fn tmps' (.inRegion ops π'::k)) cs w')/\
  φ.le φ'/\HR P W φ' (hp H) w'/\φ'.length=φ.length/\(∀j,j<lo->φ[j]? = some none->φ'[j]? = some none)/\
  fW P φ' H tm tmps' ops done kH pl π' κ lo hi/\l4 P H tm ops done π'/\tmps'.size=tmps.size/\(∀q l,π'=q::l->q∉done)
 | [],φ,tmps,w,hH,hD,hL=>⟨φ,tmps,w,[],.refl _ _,φ.le_refl,hH,rfl,λ_ _ h=>h,hD,hL,rfl,λq l h=>by cases h⟩
 | q::π,φ,tmps,w,hH,hD,hL=>by
   by_cases hq:q∈done
   . obtain⟨φ1,tmps1,w1,hs,hle,hH1,hl1,hk1,hD1,hL1,hz1⟩:=Gm (fn:=fn) (k:=k) (cs:=cs) hH hD hL hq;obtain⟨φ2,tmps2,w2,π2,hs2,hle2,hH2,hl2,hk2,hD2,hL2,hz2,hn2⟩:=sL π φ1 tmps1 w1 hH1 hD1 hL1;exact⟨φ2,tmps2,w2,π2,.head hs hs2,cK.le_trans hle hle2,hH2,hl2.trans hl1,λj hj h=>hk2 j hj (hk1 j hj h),hD2,hL2,hz2.trans hz1,hn2⟩
   . exact⟨φ,tmps,w,q::π,.refl _ _,φ.le_refl,hH,rfl,λ_ _ h=>h,hD,hL,rfl,λq' l h=>by cases h;exact hq⟩
end
end
section
variable {P:Program}{W w:World}{φ φ':cK}{H H':T OB}{tm:T Value}{tmps:Array Value}{ops:Array Oper}
variable {done kH:List Nat}{pl:List (Nat×List Nat)}{π:List Nat}{κ:Nat->Nat}{lo hi:Nat}
theorem Bz {β:Type}{F:Option OB->Option β}(hF:F none=none){b:Nat}{u:β}(hext:∀k ob,hp H k=some ob->hp H' k=some ob)(h:F (H.get (bits b))=some u):H'.get (bits b)=H.get (bits b):=by
 cases hg:H.get (bits b)with
 | none=>rw[hg,hF]at h;cases h
 | some ob=>exact hext b ob hg
theorem zR {F:Option OB->Bool}(hF:F none=false){b:Nat}(hext:∀k ob,hp H k=some ob->hp H' k=some ob)(h:F (H.get (bits b))=true):H'.get (bits b)=H.get (bits b):=by
 cases hg:H.get (bits b)with
 | none=>rw[hg,hF]at h;cases h
 | some ob=>exact hext b ob hg
theorem qC {b:Nat}(hext:∀k ob,hp H k=some ob->hp H' k=some ob)(h:kK H b=true):kK H' b=true:=by
 unfold kK at h ⊢;rw[zR (F:=λx=>dV x (λ_ _ _=>true) false) rfl hext h];exact h
theorem Rn {o:Oper}{u:Value}(hext:∀k ob,hp H k=some ob->hp H' k=some ob)(h:rd P H tm o=some u):rd P H' tm o=some u:=by
 cases hl:oi o.op with
 | false=>rw[C5 hl];exact h
 | true=>
   unfold rd at h ⊢;cases ho:o.op with
   | load t x=>
     simp only[ho]at h ⊢;unfold ai at h ⊢;split at h
     . rename_i b off _;unfold ly at h ⊢;rw[Bz (F:=λx=>ud x (λn tr=>lP P n tr t off) none) rfl hext h];exact h
     . exact h
     . cases h
   | slice t x lo hi mx=>
     simp only[ho]at h ⊢;unfold bA at h ⊢;split at h
     . rename_i b off len cap hx;obtain⟨hm,h⟩:=aH h;rw[hm];obtain⟨s,hs,h3⟩:=ar h;obtain⟨l,hl,h3⟩:=ar h3;obtain⟨hh,hhi,h3⟩:=ar h3;simp only[cond_true,hs,ax,hl,hhi];cases hc:Nat.beq cap eO with
       | false=>rw[hc]at h3;exact h3
       | true=>
         rw[hc]at h3;have h3:pg P H b off len s l hh=some u:=h3;show pg P H' b off len s l hh=some u;unfold pg at h3 ⊢;obtain⟨h4,h5⟩:=aH h3;rw[h4];cases h6:Nat.beq l 0 with
         | true=>rw[h6]at h5;exact h5
         | false=>
           rw[h6]at h5;obtain⟨h7,h8⟩:=aH (show(bif Nat.blt l len&&rT P H b s then bo (Nat.sub hh l) (λn=>bo (Nat.add off (Nat.mul l s)) λo=>some (Value.slice (some ⟨b,o,none⟩) n eO))else none)=some u from h5);simp only[Bool.and_eq_true]at h7;have h9:rT P H' b s=true:=by
            have h9:=h7.2;unfold rT at h9 ⊢;rw[zR (F:=λx=>dV x (λ_ _ el=>af (aN P el) (λz=>Nat.beq z s) false) false) rfl hext h9];exact h9
           show(bif Nat.blt l len&&rT P H' b s then bo (Nat.sub hh l) (λn=>bo (Nat.add off (Nat.mul l s)) λo=>some (Value.slice (some ⟨b,o,none⟩) n eO))else none)=some u;rw[h7.1,h9];exact h8
     . exact h
     . exact h
     . cases h
   | lookup t m k ok=>
     simp only[ho]at h ⊢;have h:cg P H t (bq P tm m) (bq P tm k) ok=some u:=h;show cg P H' t (bq P tm m) (bq P tm k) ok=some u;have he:A_ H' (bq P tm m)=A_ H (bq P tm m):=by
      unfold cg at h;obtain⟨kt,et,d,_,_,_,h⟩:=uO h;obtain⟨es,hes,_⟩:=ar h;unfold A_ at hes ⊢;split at hes
      . rfl
      . rename_i b;rw[Bz (F:=λx=>match x with | some (.map es _)=>some es | _=>none) rfl hext hes]
      . cases hes
     unfold cg at h ⊢;rw[he];exact h
   | convert s d x=>
     simp only[ho]at h ⊢;unfold dk at h ⊢;split at h
     . rename_i b off n cp hx;obtain⟨h1,h2⟩:=aH h;rw[h1];show ud (H'.get (bits b)) _ none=some u;rw[Bz (F:=λx=>ud x (λm tr=>bif Nat.ble (off+n) m then af (qS tr n off) (λl=>af (strOf l) (λr=>some (Value.string ⟨⟨r⟩⟩)) none) none else none) none) rfl hext h2];exact h2
     . exact h
     . cases h
   | binOp op t x y yt=>
     simp only[ho]at h ⊢;unfold cZ at h ⊢;obtain⟨a,ha,h⟩:=ar h;obtain⟨b,hb,h⟩:=ar h;rw[ha,hb];simp only[ax];have two:∀a b,lQ P H op t (ue x||ue y) a b=some u->lQ P H' op t (ue x||ue y) a b=some u:=λa b h=>by
      unfold lQ at h ⊢;cases hf:flat a&&flat b with
      | true=>rw[hf]at h;exact h
      | false=>
        rw[hf]at h;have h:rU P H op t a b=some u:=h;show rU P H' op t a b=some u;unfold rU at h ⊢;split at h
        . split at h
          . obtain⟨hc,h⟩:=aH h;simp only[Bool.and_eq_true]at hc;rw[qC hext hc.1,qC hext hc.2];exact h
          . cases h
        . exact h
     unfold A9 at h ⊢;split at h
     . unfold HE at h ⊢;split at h
       . exact h
       . exact two _ _ h
     . exact two _ _ h
   | _=>rw[ho]at hl;cases hl
theorem jC {an:List Nat}{i:Nat}{chk:List Nat}{rest:List (Nat×List Nat)}(h:gT ops an done kH ((i,chk)::rest)=true):
 ∃o,ops[i]? = some o/\i∉done/\e7 ops done o=true/\
  (lT an i o=true->gT ops an (i::done) (if oi o.op=true then i::kH else kH) rest=true)/\
  (lT an i o=false->(Ba o.op=true->chk=[])/\(∀j∈rest,∀q,ops[j.1]? = some q->e7 ops done q=false)/\(∀p∈kH,p∈chk\/p∈HH ops i)/\gT ops an (i::done) chk rest=true):=by
 unfold gT at h;cases ho:ops[i]? with
 | none=>simp only[ho]at h;cases h
 | some o=>
   simp only[ho,Bool.and_eq_true,Bool.not_eq_true']at h;obtain⟨⟨h1,h2⟩,h3⟩:=h;refine⟨o,rfl,λq=> ?_,h2,λhc=> ?_,λhc=> ?_⟩
   . have:done.contains i=true:=by simpa using q
     rw[h1]at this;cases this
   . rw[if_pos hc]at h3;exact h3
   . rw[if_neg (by rw[hc];decide)]at h3;simp only[Bool.and_eq_true]at h3;refine⟨λhr=>by simpa[hr]using h3.1.1.1,λj hj q hq=> ?_,λp hp=> ?_,h3.2⟩
     . have:=List.all_eq_true.1 h3.1.1.2 j hj;rw[hq]at this;simpa using this
     . have:=List.all_eq_true.1 h3.1.2 p hp;simpa using this
theorem nI {an:List Nat}:∀(pl:List (Nat×List Nat)) (done kH:List Nat),gT ops an done kH pl=true->∀i,i<ops.size->i∈done\/∃c,(i,c)∈pl
 | [],done,kH,h,i,hi=>by
   unfold gT at h;have:=List.all_eq_true.1 h i (List.mem_range.2 hi);exact .inl (by simpa using this)
 | (j,chk)::rest,done,kH,h,i,hi=>by
   obtain⟨o,_,_,_,h1,h2⟩:=jC h;have key:∀lds',gT ops an (j::done) lds' rest=true->i∈done\/∃c,(i,c)∈(j,chk)::rest:=λlds' hh=>by
    rcases nI rest (j::done) lds' hh i hi with h | ⟨c,h⟩
    . rcases List.mem_cons.1 h with h | h
      . subst h;exact .inr ⟨chk,by simp⟩
      . exact .inl h
    . exact .inr ⟨c,List.mem_cons_of_mem _ h⟩
   cases hc:lT an j o with
   | true=>exact key _ (h1 hc)
   | false=>exact key _ (h2 hc).2.2.2
theorem dR {o:Oper}:e7 ops done o=true↔∀e∈o.after,Region.binds .any e=true->e.on∈done:=by
 unfold e7;rw[List.all_eq_true];constructor
 . intro h e he hb;have:=h e (by simpa using he);simpa[hb]using this
 . intro h e he;cases hb:Region.binds .any e with
   | false=>rfl
   | true=>simpa using h e (by simpa using he) hb
theorem sM {i p:Nat}(hna:i∉lA ops){o op:Oper}(ho:ops[i]? = some o)(hp:ops[p]? = some op)(hr:e7 ops done op=true)(hi:i∉done){d:Tmp}(hd:o.dst=some d):d∉op.looksAt ops:=λhl=>by
 obtain⟨e,he,hb,hon⟩:=iY.1 (zQ hna hp ho hd hl);exact hi (hon ▸ dR.1 hr e he hb)
theorem zS (hs:ug ops=true){i p:Nat}{o op:Oper}(ho:ops[i]? = some o)(hp:ops[p]? = some op)(hr:e7 ops done op=true)(hi:i∉done)(hdeps:∀e∈o.after,Region.binds .any e=true->e.on≠p){d:Tmp}(hd:o.dst=some d):d∉op.looksAt ops:=λhl=>by
 rcases zP hs hp ho hd hl with h | h
 . obtain⟨e,he,hb,hon⟩:=iY.1 h;exact hi (hon ▸ dR.1 hr e he hb)
 . obtain⟨e,he,hb,hon⟩:=iY.1 h;exact hdeps e he hb hon
theorem l7 {i p:Nat}{o op:Oper}{u:Value}(hl:∀d,o.dst=some d->d∉op.looksAt ops):bX (cG tm o.dst u) ops op=bX tm ops op:=
 uo λg hg d hd=>by
  rw[gq,if_neg];exact λq=>hl d q (l6 hg hd)
theorem pU {o op:Oper}{u:Value}(hl:∀d,o.dst=some d->d∉op.looksAt ops):rd P H (cG tm o.dst u) op=rd P H tm op:=
 Ig λx hx=>pQ tm o.dst u x λd hd q=>by
  subst q;exact hl d hd (l5 hx)
theorem sN {i p:Nat}{o op:Oper}{u:Value}(hs:ug ops=true)(ho:ops[i]? = some o)(hp:ops[p]? = some op)(hne:i≠p){d:Tmp}(hd:op.dst=some d):
 (cG tm o.dst u).get (bits d)=tm.get (bits d):=by
 rw[gq,if_neg (Rm hs ho hp hd hne)]
theorem zO.next {i p:Nat}{o op:Oper}{u:Value}{κ':Nat->Nat}{hi':Nat}(hs:ug ops=true)(ho:ops[i]? = some o)(hp':ops[p]? = some op)(hne:i≠p)
 (hl:∀d,o.dst=some d->d∉op.looksAt ops) (hk:∀k,k<hi->φ[k]? = some none->φ'[k]? = some none/\hp H' k=hp H k) (hκ:κ' p=κ p) (hhi:hi<=hi')
 (h:zO P φ H tm ops κ lo hi p op):zO P φ' H' (cG tm o.dst u) ops κ' lo hi' p op:=by
 have e1:bX (cG tm o.dst u) ops op=bX tm ops op:=l7 (i:=i) (p:=p) hl;have e2:∀d,op.dst=some d->(cG tm o.dst u).get (bits d)=tm.get (bits d):=λd hd=>sN hs ho hp' hne hd
 rcases h with⟨h1,h2⟩ | ⟨h1,h2,v,h3,h4⟩ | ⟨h1,hal,e,l,mk,h3,h4,h5,h6,h7,h8⟩
 . exact .inl ⟨e1.trans h1,λd hd=>(e2 d hd).trans (h2 d hd)⟩
 . exact .inr (.inl ⟨e1.trans h1,h2,v,λd hd=>(e2 d hd).trans (h3 d hd),λq=>by rw[pU hl,C5 q];exact h4 q⟩)
 . refine .inr (.inr ⟨e1.trans h1,hal,e,l,mk,uU (λx hx=>pQ tm o.dst u x λd hd q=>by
    subst q;exact hl d hd (l5 hx)) h3,?_,?_,?_,?_,λd hd=> ?_⟩)
   . rw[hκ];exact(hk _ h7 h4).1
   . rw[hκ];exact(hk _ h7 h4).2.trans h5
   . rw[hκ];exact h6
   . rw[hκ];omega
   . rw[hκ];exact(e2 d hd).trans (h8 d hd)
theorem wc (hac:acyclic ops=true){i:Nat}{o:Oper}(ho:ops[i]? = some o):direct o i=false:=by
 cases h:direct o i with
 | false=>rfl
 | true=>
   obtain⟨e,he,hb,hon⟩:=iY.1 h;have h1:=List.all_eq_true.1 hac i (List.mem_range.2 (Array.getElem?_eq_some_iff.1 ho).1);rw[ho]at h1;have h2:=List.all_eq_true.1 h1 e (by simpa using he);simp only[hb,Bool.not_true,Bool.false_or]at h2;have:=fo h2;omega
theorem Ik (hs:ug ops=true)(hac:acyclic ops=true){i:Nat}{o:Oper}(ho:ops[i]? = some o){d:Tmp}(hd:o.dst=some d):d∉o.looksAt ops:=λhl=>by
 have:=(zP hs ho ho hd hl).elim id id;rw[wc hac ho]at this;cases this
theorem fW.take {i:Nat}{o:Oper}{chk:List Nat}{rest:List (Nat×List Nat)}(hD:fW P φ H tm tmps ops done kH ((i,chk)::rest) π κ lo hi)(ho:ops[i]? = some o)
 (hna:i∉lA ops) (hni:i∉done) (hrdy:e7 ops done o=true) {lds':List Nat} (hplan:gT ops (kO ops) (i::done) lds' rest=true) (hsub:∀p∈kH,p∈lds') (hself:oi o.op=true->i∈lds')
 {κ':Nat->Nat} {hi':Nat} (hle:φ.le φ') (hk:∀k,k<hi->φ[k]? = some none->φ'[k]? = some none/\hp H' k=hp H k) (hκ:∀p,p≠i->κ' p=κ p) (hhi:hi<=hi') {u:Value}
 (hdst:∀d,o.dst=some d->d<tmps.size) (hprom:zO P φ' H' (cG tm o.dst u) ops κ' lo hi' i o) (hfresh:rZ o.op=true->hi<=κ' i):
 fW P φ' H' (cG tm o.dst u) tmps ops (i::done) lds' rest π κ' lo hi':=by
 have hisz:i<ops.size:=(Array.getElem?_eq_some_iff.1 ho).1;have hiπ:i∈π:=hD.todo i hisz hni;have nl:∀p,p∈done->∀op,ops[p]? = some op->∀d,o.dst=some d->d∉op.looksAt ops:=λp hpd op hp d hd=>sM hna ho hp (hD.ready p hpd op hp) hni hd;have hlt:∀q,q∈π->q∈done->∀o',ops[q]? = some o'->rZ o'.op=true->bX tm ops o'=some true->κ q<hi:=λq hq hqd o' ho' hal hw=>by
  rcases hD.prom q hq hqd o' ho' with⟨h1,_⟩ | ⟨_,h2,_⟩ | ⟨_,_,_,_,_,_,_,_,_,h7,_⟩
  . rw[hw]at h1;cases h1
  . rw[C6 hal]at h2;cases h2
  . exact h7
 refine⟨hD.sa,hD.ac,hplan,hD.Mf,λj hj hn=>hD.todo j hj (λq=>hn (List.mem_cons_of_mem _ q)),hD.closed,λj hj x hx=> ?_,λt v hv=> ?_,λj x d hx hxd hj=> ?_,λp hp hpd op hop=> ?_,λp hp hpd op hop hl=> ?_,λp q hp hpd hq hqd x y hx hy hxa hya hxw hyw heq=> ?_,λp hp hpd=>(List.mem_cons.1 hpd).elim (λh=>h ▸ hna) (hD.own p hp)⟩
 . rw[dR];intro e he hb;rcases List.mem_cons.1 hj with h | h
   . subst h;rw[ho]at hx;cases hx;exact List.mem_cons_of_mem _ (dR.1 hrdy e he hb)
   . exact List.mem_cons_of_mem _ (dR.1 (hD.ready j h x hx) e he hb)
 . rw[gq]at hv
   by_cases ht:o.dst=some t
   . refine .inl ⟨i,hiπ,by simp,?_⟩;unfold j6;rw[ho];exact ht
   . rw[if_neg ht]at hv;rcases hD.tr t v hv with⟨p,h1,h2,h3⟩ | ⟨v',a,b⟩
     . exact .inl ⟨p,h1,List.mem_cons_of_mem _ h2,h3⟩
     . exact .inr ⟨v',a,b.mono hle⟩
 . rcases List.mem_cons.1 hj with h | h
   . subst h;rw[ho]at hx;cases hx;exact hdst d hxd
   . exact hD.MG j x d hx hxd h
 . rcases List.mem_cons.1 hpd with h | h
   . subst h;rw[ho]at hop;cases hop;exact hprom
   . have hne:i≠p:=λq=>hni (q ▸ h);exact(hD.prom p hp h op hop).next hD.sa ho hop hne (nl p h op hop) hk (hκ p (Ne.symm hne)) hhi
 . rcases List.mem_cons.1 hpd with h | h
   . subst h;rw[ho]at hop;cases hop;exact hself hl
   . exact hsub p (hD.kH p hp h op hop hl)
 . have wst:∀p,p∈done->∀x,ops[p]? = some x->bX (cG tm o.dst u) ops x=some true->bX tm ops x=some true:=λp hpd x hx h=>by
    rw[l7 (i:=i) (p:=p) (nl p hpd x hx)]at h;exact h
   rcases List.mem_cons.1 hpd with h | h<;>rcases List.mem_cons.1 hqd with h' | h'
   . rw[h,h']
   . have hne:q≠i:=λz=>hni (z ▸ h');rw[hκ q hne,h]at heq;rw[h]at hx;rw[ho]at hx;cases hx;have:=hfresh hxa;have:=hlt q hq h' y hy hya (wst q h' y hy hyw);omega
   . have hne:p≠i:=λz=>hni (z ▸ h);rw[hκ p hne,h']at heq;rw[h']at hy;rw[ho]at hy;cases hy;have:=hfresh hya;have:=hlt p hp h x hx hxa (wst p h x hx hxw);omega
   . have hne:p≠i:=λz=>hni (z ▸ h);have hne':q≠i:=λz=>hni (z ▸ h');rw[hκ p hne,hκ q hne']at heq;exact hD.inj p q hp h hq h' x y hx hy hxa hya (wst p h x hx hxw) (wst q h' y hy hyw) heq
theorem l4.take {i:Nat}{o:Oper}(hs:ug ops=true)(hready:∀i,i∈done->∀o,ops[i]? = some o->e7 ops done o=true)(ho:ops[i]? = some o)(hna:i∉lA ops)(hni:i∉done)(hL:l4 P H tm ops done π)
 (hext:∀k ob,hp H k=some ob->hp H' k=some ob) {u:Value} (hself:oi o.op=true->bX (cG tm o.dst u) ops o=some true->rd P H' (cG tm o.dst u) o=some u):
 l4 P H' (cG tm o.dst u) ops (i::done) π:=by
 intro p hp hpd op hop hl hw;rcases List.mem_cons.1 hpd with h | h
 . subst h;rw[ho]at hop;cases hop;refine⟨u,hself hl hw,λd hd=> ?_⟩;rw[gq,if_pos hd]
 . have nl:∀d,o.dst=some d->d∉op.looksAt ops:=λd hd=>sM hna ho hop (hready p h op hop) hni hd;have hne:i≠p:=λq=>hni (q ▸ h);rw[l7 (i:=i) (p:=p) nl]at hw;obtain⟨v,h1,h2⟩:=hL p hp h op hop hl hw;refine⟨v,?_,λd hd=> ?_⟩
   . rw[pU nl];exact Rn hext h1
   . rw[sN hs ho hop hne hd];exact h2 d hd
theorem rl {L:List Nat}(hcl:∀i,i∉L->∀o,ops[i]? = some o->∀e∈o.after,Region.binds .any e=true->e.on∉L):∀(q:Nat) (acc:List Nat),(∀x∈acc,x∉L)->∀x∈uD ops q acc,x∉L
 | 0,acc,h,x,hx=>h x hx
 | q+1,acc,h,x,hx=>by
   unfold uD at hx;split at hx
   . rename_i hc;split at hx
     . rename_i o ho;refine rl hcl q _ ?_ x hx;have hq:q∉L:=h q (by simpa using hc);have:∀(es:List Edge) (acc:List Nat),(∀e∈es,e∈o.after)->(∀x∈acc,x∉L)->∀x∈es.foldl (λl e=>if Region.binds .any e=true then e.on::l else l) acc,x∉L:=by
        intro es
        induction es with
        | nil=>exact λacc _ h=>h
        | cons e es ih=>
          intro acc hes h;refine ih _ (λe' he'=>hes e' (List.mem_cons_of_mem _ he')) ?_
          dsimp only
          split
          . rename_i hb;intro x hx;rcases List.mem_cons.1 hx with hx | hx
            . subst hx;exact hcl q hq o ho e (hes e (by simp)) hb
            . exact h x hx
          . exact h
       exact this _ _ (λe he=>by simpa using he) h
     . exact rl hcl q _ h x hx
   . exact rl hcl q _ h x hx
theorem Il {i:Nat}{π:List Nat}(hlin:sH ops (i::π))(hcl:∀j,j∉i::π->∀o,ops[j]? = some o->∀e∈o.after,Region.binds .any e=true->e.on∉i::π):
 ∀x∈HH ops i,x∉i::π:=by
 obtain⟨⟨o,ho,hdeps⟩,_⟩:=hlin;unfold HH;rw[ho];refine rl hcl i _ ?_;have:∀(es:List Edge) (acc:List Nat),(∀e∈es,e∈o.after)->(∀x∈acc,x∉i::π)->∀x∈es.foldl (λl e=>if Region.binds .any e=true then e.on::l else l) acc,x∉i::π:=by
  intro es
  induction es with
  | nil=>exact λacc _ h=>h
  | cons e es ih=>
    intro acc hes h;refine ih _ (λe' he'=>hes e' (List.mem_cons_of_mem _ he')) ?_
    dsimp only
    split
    . rename_i hb;intro x hx;rcases List.mem_cons.1 hx with hx | hx
      . subst hx;exact hdeps e (hes e (by simp)) hb
      . exact h x hx
    . exact h
 exact this _ _ (λe he=>by simpa using he) (λx hx=>by cases hx)
theorem fW.finish {i:Nat}{o:Oper}{chk:List Nat}{rest:List (Nat×List Nat)}(hD:fW P φ H tm tmps ops done kH ((i,chk)::rest) (i::π) κ lo hi)(ho:ops[i]? = some o)
 (hE:lT (kO ops) i o=false) {hi':Nat} (hle:φ.le φ') (hk:∀k,k<hi->φ[k]? = some none->φ'[k]? = some none/\hp H' k=hp H k) (hhi:hi<=hi') {u u':Value} (hu:VR φ' u u')
 (hdst:∀d,o.dst=some d->d<tmps.size) (hchk:chk.all (held P H' (cG tm o.dst u) ops)=true):
 fW P φ' H' (cG tm o.dst u) (kb tmps o.dst u') ops (i::done) chk rest π κ lo hi'/\l4 P H' (cG tm o.dst u) ops (i::done) π:=by
 obtain⟨o',ho',hni,hrdy,_,hpl⟩:=jC hD.Gl;rw[ho]at ho';cases ho';obtain⟨_,_,hlds,hplan⟩:=hpl hE;obtain⟨⟨o',ho',hdeps⟩,hnπ,hlin⟩:=hD.Mf;rw[ho]at ho';cases ho';have hanc:=Il hD.Mf hD.closed;have nl:∀p,p∈π->p∈done->∀op,ops[p]? = some op->∀d,o.dst=some d->d∉op.looksAt ops:=λp hpπ hpd op hp d hd=>zS hD.sa ho hp (hD.ready p hpd op hp) hni (λe he hb q=>hdeps e he hb (by rw[q];exact List.mem_cons_of_mem _ hpπ)) hd;have pd:∀p,p∈π->p∈i::done->p∈done:=λp hp hpd=>(List.mem_cons.1 hpd).resolve_left (λq=>hnπ (q ▸ hp));have inchk:∀p,p∈π->p∈done->∀op,ops[p]? = some op->oi op.op=true->p∈chk:=λp hp hpd op hop hl=>
  (hlds p (hD.kH p (List.mem_cons_of_mem _ hp) hpd op hop hl)).resolve_right (λq=>hanc p q (List.mem_cons_of_mem _ hp))
 refine⟨⟨hD.sa,hD.ac,hplan,hlin,λj hj hn=> ?_,λj hj x hx e he hb=> ?_,λj hj x hx=> ?_,?_,λj x d hx hxd hj=> ?_,λp hp hpd op hop=> ?_,λp hp hpd op hop hl=>inchk p hp (pd p hp hpd) op hop hl,λp q hp hpd hq hqd x y hx hy hxa hya hxw hyw heq=> ?_,λp hp hpd=>hD.own p (List.mem_cons_of_mem _ hp) (pd p hp hpd)⟩,?_⟩
 . rcases List.mem_cons.1 (hD.todo j hj (λq=>hn (List.mem_cons_of_mem _ q)))with h | h
   . subst h;exact absurd (List.mem_cons_self ..) hn
   . exact h
 . by_cases hji:j=i
   . subst hji;rw[ho]at hx;cases hx;exact λh=>hdeps e he hb (List.mem_cons_of_mem _ h)
   . exact λh=>hD.closed j (λh=>(List.mem_cons.1 h).elim hji hj) x hx e he hb (List.mem_cons_of_mem _ h)
 . rw[dR];intro e he hb;rcases List.mem_cons.1 hj with h | h
   . subst h;rw[ho]at hx;cases hx;exact List.mem_cons_of_mem _ (dR.1 hrdy e he hb)
   . exact List.mem_cons_of_mem _ (dR.1 (hD.ready j h x hx) e he hb)
 . refine(hD.tr.mono hle).put hdst hu λt ht hne=> ?_;obtain⟨p,h1,h2,h3⟩:=ht;rcases List.mem_cons.1 h1 with h | h
   . subst h;exact absurd h2 hni
   . exact⟨p,h,List.mem_cons_of_mem _ h2,h3⟩
 . rw[eR];rcases List.mem_cons.1 hj with h | h
   . subst h;rw[ho]at hx;cases hx;exact hdst d hxd
   . exact hD.MG j x d hx hxd h
 . have hpd:=pd p hp hpd;have hne:i≠p:=λq=>hni (q ▸ hpd);exact(hD.prom p (List.mem_cons_of_mem _ hp) hpd op hop).next hD.sa ho hop hne (nl p hp hpd op hop) hk rfl hhi
 . have hpd:=pd p hp hpd;have hqd:=pd q hq hqd;have wst:∀p,p∈π->p∈done->∀x,ops[p]? = some x->bX (cG tm o.dst u) ops x=some true->bX tm ops x=some true:=λp hpπ hpd x hx h=>by
    rw[l7 (i:=i) (p:=p) (nl p hpπ hpd x hx)]at h;exact h
   exact hD.inj p q (List.mem_cons_of_mem _ hp) hpd (List.mem_cons_of_mem _ hq) hqd x y hx hy hxa hya (wst p hp hpd x hx hxw) (wst q hq hqd y hy hyw) heq
 . intro p hp hpd op hop hl hw;have hpd:=pd p hp hpd;have h1:=List.all_eq_true.1 hchk p (inchk p hp hpd op hop hl);unfold held at h1;rw[hop]at h1;have h1:Pb P H' (cG tm o.dst u) op (bX (cG tm o.dst u) ops op)=true:=h1;rw[hw]at h1;have h1:af (rd P H' (cG tm o.dst u) op) (CT (cG tm o.dst u) op.dst) false=true:=h1;cases hr:rd P H' (cG tm o.dst u) op with
   | none=>rw[hr]at h1;cases h1
   | some v=>
     rw[hr]at h1;have h1:CT (cG tm o.dst u) op.dst v=true:=h1;refine⟨v,rfl,λd hd=> ?_⟩;unfold CT at h1;rw[hd]at h1;cases hg:(cG tm o.dst u).get (bits d)with
     | none=>simp only[hg]at h1;cases h1
     | some v2=>
       simp only[hg]at h1;rw[Gj h1]
theorem fW.head {i:Nat}{o:Oper}{chk:List Nat}{rest:List (Nat×List Nat)}(hD:fW P φ H tm tmps ops done kH ((i,chk)::rest) π κ lo hi)(ho:ops[i]? = some o)
 (hE:lT (kO ops) i o=false) (hn:∀q l,π=q::l->q∉done):∃l,π=i::l:=by
 obtain⟨o',ho',hni,hrdy,_,hpl⟩:=jC hD.Gl;rw[ho]at ho';cases ho';obtain⟨_,hrest,_,_⟩:=hpl hE;have hi:=hD.todo i (Array.getElem?_eq_some_iff.1 ho).1 hni;cases π with
 | nil=>cases hi
 | cons q l=>
   refine⟨l,?_⟩;have hq:=hn q l rfl;obtain⟨⟨oq,hoq,hdeps⟩,_,_⟩:=hD.Mf;have hqsz:=(Array.getElem?_eq_some_iff.1 hoq).1;have hqr:e7 ops done oq=true:=dR.2 λe he hb=>by
    have h1:=hdeps e he hb;have h2:e.on<ops.size:=by
     have h3:=List.all_eq_true.1 hD.ac q (List.mem_range.2 hqsz);rw[hoq]at h3;have h4:=List.all_eq_true.1 h3 e (by simpa using he);simp only[hb,Bool.not_true,Bool.false_or]at h4;have:=fo h4;omega
    by_cases h5:e.on∈done
    . exact h5
    . exact absurd (hD.todo e.on h2 h5) h1
   rcases nI _ _ _ hD.Gl q hqsz with h | ⟨c,h⟩
   . exact absurd h hq
   . rcases List.mem_cons.1 h with h | h
     . cases h;rfl
     . have:=hrest _ h oq hoq;rw[hqr]at this;cases this
theorem fW.last (hD:fW P φ H tm tmps ops done kH [] π κ lo hi)(hn:∀q l,π=q::l->q∉done):π=[]:=by
 cases π with
 | nil=>rfl
 | cons q l=>
   obtain⟨⟨oq,hoq,_⟩,_,_⟩:=hD.Mf;rcases nI _ _ _ hD.Gl q (Array.getElem?_eq_some_iff.1 hoq).1 with h | ⟨c,h⟩
   . exact absurd h (hn q l rfl)
   . cases h
theorem BA {pl:List (Nat×List Nat)}(h:vT ops=some pl):ug ops=true/\acyclic ops=true/\gT ops (kO ops) [] [] pl=true:=by
 unfold vT at h;split at h
 . cases h
 . split at h
   . rename_i hc;cases h;simp only[Bool.and_eq_true]at hc;exact⟨hc.1.1.1,hc.1.1.2,hc.2⟩
   . cases h
theorem fW.start {pl:List (Nat×List Nat)}(h:vT ops=some pl)(t:Nat)(htr:zM φ (λ_=>False) tm tmps)(lo hi:Nat):
 fW P φ H tm tmps ops [] [] pl (Region.schedule true ops t) id lo hi/\l4 P H tm ops [] (Region.schedule true ops t):=by
 obtain⟨h1,h2,h3⟩:=BA h;obtain⟨h4,h5⟩:=Gk ops h2 t;refine⟨⟨h1,h2,h3,h4,λi hi _=>h5 i hi,λi hi o ho=>absurd (h5 i (Array.getElem?_eq_some_iff.1 ho).1) hi,λi hi=>absurd hi List.not_mem_nil,λt v hv=>(htr t v hv).imp False.elim id,
  λi o d _ _ hi=>absurd hi List.not_mem_nil,λp _ hp=>absurd hp List.not_mem_nil,λp _ hp=>absurd hp List.not_mem_nil,λp q _ hp=>absurd hp List.not_mem_nil,λp _ hp=>absurd hp List.not_mem_nil⟩,λp _ hp=>absurd hp List.not_mem_nil⟩
end
section
variable {P:Program}
def kindOf (kd:Bool):CallKind:=match kd with
 | true=> .deferred
 | false=> .normal
inductive Ph (P:Program)(φ:cK):List (FuncId×List Value)->List Deferred->Prop
 | nil:Ph P φ [] []
 | cons {d:FuncId×List Value} {d':Deferred} {l:List (FuncId×List Value)} {l':List Deferred} (h:U7 P φ d d') (hl:Ph P φ l l'):Ph P φ (d::l) (d'::l')
theorem Ph.mono {φ φ':cK}(hle:φ.le φ'){l:List (FuncId×List Value)}{l':List Deferred}(h:Ph P φ l l'):Ph P φ' l l':=by
 induction h with
 | nil=>exact .nil
 | cons h _ ih=>exact .cons (h.mono hle) ih
def cB (c:Cg)(ds:List Deferred):FB:=⟨c.fn,kindOf c.kd,ds⟩
def gC (m:Option Value):FrameMode:=match m with
 | none=> .returning
 | some v=> .panicking [{ v,recovered:=false }]
def zT:List Frame->List Frame
 | C::r=>(match C.mode with
   | .panicking ({ v,recovered:=false,goexit:=false }::older)=>{ C with mode:= .panicking ({ v,recovered:=true }::older) }::r
   | _=>C::r)
 | []=>[]
def eK (rc:Bool)(cs:List Frame):List Frame:=match rc with
 | true=>zT cs
 | false=>cs
def BB (φ:cK)(kd:Bool)(rp:Option Value)(rc:Bool)(cs0:List Frame):Prop:=kd=true->match rp with
 | some v=>rc=false/\∃C r v' older,cs0=C::r/\C.mode= .panicking ({ v:=v',recovered:=false,goexit:=false }::older)/\VR φ v v'
 | none=>∀F:Frame,F.kind= .deferred->tryRecover F (eK rc cs0)=none
theorem BB.mono {φ φ':cK}(hle:φ.le φ'){kd:Bool}{rp:Option Value}{rc:Bool}{cs0:List Frame}(h:BB φ kd rp rc cs0):BB φ' kd rp rc cs0:=λq=>by
 have:=h q;cases rp with
 | none=>exact this
 | some v=>
   obtain⟨a,C,r,v',older,b,c,d⟩:=this;exact⟨a,C,r,v',older,b,c,d.mono hle⟩
theorem BC {F:Frame}{cs:List Frame}(h:F.kind= .normal):tryRecover F cs=none:=by
 unfold tryRecover;rw[h]
theorem iL {F C:Frame}{cs:List Frame}(h:F.kind= .deferred):tryRecover F (C::cs)=(match C.mode with
 | .panicking ({ v,recovered:=false,goexit:=false }::older)=>some (v,{ C with mode:= .panicking ({ v,recovered:=true }::older) }::cs)
 | _=>none):=by
 conv=>lhs;unfold tryRecover
 rw[h];rfl
theorem Im {F:Frame}{cs:List Frame}(h:F.kind= .deferred):tryRecover F (zT cs)=none:=by
 cases cs with
 | nil=>unfold tryRecover;rw[h];rfl
 | cons C r=>
   show tryRecover F (match C.mode with
   | .panicking ({ v,recovered:=false,goexit:=false }::older)=>{ C with mode:= .panicking ({ v,recovered:=true }::older) }::r
   | _=>C::r)=none
   split
   . rw[iL h]
   . rename_i hn;rw[iL h];split
     . rename_i v older q;exact absurd q (hn v older)
     . rfl
theorem Gn {C:Frame}{r:List Frame}(h:∀l,C.mode ≠ .panicking l):zT (C::r)=C::r:=by
 show(match C.mode with
  | .panicking ({ v,recovered:=false,goexit:=false }::older)=>{ C with mode:= .panicking ({ v,recovered:=true }::older) }::r
  | _=>C::r)=C::r
 split
 . rename_i q;exact absurd q (h _)
 . rfl
theorem zU {C:Frame}{r:List Frame}(rc:Bool)(h:∀l,C.mode ≠ .panicking l):eK rc (C::r)=C::r:=by
 cases rc
 . rfl
 . exact Gn h
def Va (P:Program)(φ:cK)(o:Out)(fr:Frame)(w:World):Prop:=match o with
 | .ret v=>∃v',VR φ v v'/\fr.going P w (.returned v')
 | .gv v=>∃v',VR φ v v'/\fr.going P w (.panicked [{ v:=v',recovered:=false }])
variable {W w w' w1:World}{f fn:FuncId}{cs cs0:List Frame}{r:Rt}{fr fr' fr1:Frame}{φ φ' φ1:cK}{H H' H1:T OB}{nx nx' av nt lo hi:Nat}{tm:T Value}{tmps:Array Value}{ops:Array Oper}
 {todo k:List Item} {c:Cg} {ds:List Deferred} {kd:Bool} {O:bu->Option Rt}
def dD (P:Program)(W:World)(kd:Bool)(fn:FuncId)(lo:Nat)(cs0:List Frame)(rc:Bool)(φ:cK)(H:T OB)(r:Rt)(fr:Frame)(w:World):Prop:=
 ∃φ' w' frl,Steps P (lone fr (eK rc cs0) w) (lone frl (eK r.rc cs0) w')/\φ.le φ'/\HR P W φ' (hp r.H) w'/\φ'.length=r.nx/\(∀k,k<lo->φ[k]? = some none->φ'[k]? = some none/\hp r.H k=hp H k)/\
  frl.kind=kindOf kd/\frl.fn=fn/\Va P φ' r.o frl w'
theorem dD.steps {rc rc1:Bool}(hs:Steps P (lone fr (eK rc cs0) w) (lone fr1 (eK rc1 cs0) w1))(hle:φ.le φ1)(hk:∀k,k<lo->φ[k]? = some none->φ1[k]? = some none/\hp H1 k=hp H k)
 (h:dD P W kd fn lo cs0 rc1 φ1 H1 r fr1 w1):dD P W kd fn lo cs0 rc φ H r fr w:=by
 obtain⟨φ',w',frl,h1,h2,h3,h4,h5,h6,h7,h8⟩:=h;exact⟨φ',w',frl,hs.trans h1,cK.le_trans hle h2,h3,h4,λk hk' q=>⟨(h5 k hk' (hk k hk' q).1).1,(h5 k hk' (hk k hk' q).1).2.trans (hk k hk' q).2⟩,h6,h7,h8⟩
theorem dD.step1 {rc:Bool}(hs:Steps P (lone fr (eK rc cs0) w) (lone fr1 (eK rc cs0) w))(h:dD P W kd fn lo cs0 rc φ H r fr1 w):dD P W kd fn lo cs0 rc φ H r fr w:=
 h.steps hs φ.le_refl λ_ _ q=>⟨q,rfl⟩
theorem rm {a:Rt}(h:(Q.ret a).run O=some r):a=r:=by cases h;rfl
theorem hJ (h:Q.bad.run O=some r):False:=by cases h
theorem oG {q:bu}{g:Rt->Q}(h:(Q.ask q g).run O=some r):∃a,O q=some a/\(g a).run O=some r:=by
 have h:af (O q) (λa=>(g a).run O) none=some r:=h;exact ar h
theorem Io {q:bu}(h:(Q.jump q).run O=some r):O q=some r:=h
theorem bF {α:Type}{x:Option α}{g:α->Q}(h:(af x g .bad).run O=some r):∃a,x=some a/\(g a).run O=some r:=by
 cases x with
 | none=>cases h
 | some a=>exact⟨a,rfl,h⟩
theorem mK {b:Bool}{x:Q}(h:(bif b then x else Q.bad).run O=some r):b=true/\x.run O=some r:=by
 cases b
 . cases h
 . exact⟨rfl,h⟩
theorem eW {b:Bool}{x y:Q}(h:(bK b x y).run O=some r):(b=true/\x.run O=some r)\/(b=false/\y.run O=some r):=by
 cases b
 . exact .inr ⟨rfl,h⟩
 . exact .inl ⟨rfl,h⟩
theorem dr {dst:Option Tmp}{v:Value}{g:T Value->Q}(h:(kN nt tm dst v g .bad).run O=some r):(∀d,dst=some d->d<nt)/\(g (cG tm dst v)).run O=some r:=by
 cases dst with
 | none=>exact⟨λd hd=>(by cases hd),h⟩
 | some d=>
   obtain⟨h1,h2⟩:=mK (show(bif Nat.blt d nt then dp (bits d) tm (some v) g else Q.bad).run O=some r from h);rw[aL]at h2;exact⟨λd' hd=>by cases hd;exact fo h1,h2⟩
theorem oH {t:Bool}{dst:Option Tmp}{v:Value}{g:T Value->Q}(h:(zm P t nt tm dst v g).run O=some r):(∀d,dst=some d->d<nt)/\(g (cG tm dst v)).run O=some r:=by
 unfold zm at h;rcases eW h with⟨_,h1⟩ | ⟨_,h1⟩
 . unfold Mr at h1;split at h1
   . exact dr h1
   . cases h1
 . exact dr h1
theorem rq {e:fj}{g:Value->T OB->Nat->Q}(h:(aR e g).run O=some r):∃v H nx,e= .val v H nx/\(g v H nx).run O=some r:=by
 cases e with
 | val v H nx=>exact⟨v,H,nx,rfl,h⟩
 | _=>cases h
theorem Ip {x:Option Value}{g:Nat->Nat->Q}(h:(Mt x g).run O=some r):∃b off,x=some (.pointer (some ⟨b,off,none⟩))/\(g b off).run O=some r:=by
 unfold Mt at h;split at h
 . exact⟨_,_,rfl,h⟩
 . cases h
theorem BD {x:Option OB}{g:Nat->T Value->TypeId->Q}(h:(nB x g).run O=some r):∃n t e,x=some (.cells n t e)/\(g n t e).run O=some r:=by
 unfold nB at h;split at h
 . exact⟨_,_,_,rfl,h⟩
 . cases h
theorem kc {α:Type}(v:α):∀(bs:List Bool) (t:T α),t.get bs=some v->set t bs (some v)=t
 | [],.leaf,h=>by cases h
 | [],.node x l r,h=>by have h:x=some v:=h;subst h;rfl
 | b::bs,.leaf,h=>by rw[j7]at h;cases h
 | false::bs,.node x l r,h=>by rw[iV,kc v bs l h]
 | true::bs,.node x l r,h=>by rw[jQ,kc v bs r h]
theorem uV {o:Oper}{yes no:T Value->Q}(h:(vU tm ops o.guard yes no).run O=some r):∃b,bX tm ops o=some b/\(b=true->(yes tm).run O=some r)/\(b=false->(no tm).run O=some r):=by
 unfold bX;unfold vU at h;split at h
 . rename_i hg;exact⟨true,(by first | rfl | rw[hg]),λ_=>h,λq=>(by cases q)⟩
 . rename_i p hg;obtain⟨d,hd,h1⟩:=bF h;show ∃b,af (j6 ops p.1) (λd=>lS tm d p.2) none=some b/\_;rw[hd];show ∃b,lS tm d p.2=some b/\_;unfold lS;split at h1
   . rename_i x hx;rw[aL,aL,aL,aL]at h1;refine⟨_,rfl,λq=> ?_,λq=> ?_⟩
     . have q:x=p.2:=by simpa using q
       subst q;rcases eW h1 with⟨h2,h3⟩ | ⟨h2,h3⟩
       . rw[h2]at h3 hx;have h3:(yes (set tm (bits d) (some (.bool true)))).run O=some r:=h3;rwa[kc _ _ _ hx]at h3
       . rw[h2]at h3 hx;have h3:(yes (set tm (bits d) (some (.bool false)))).run O=some r:=h3;rwa[kc _ _ _ hx]at h3
     . have q:x≠p.2:=by simpa using q
       rcases eW h1 with⟨h2,h3⟩ | ⟨h2,h3⟩
       . have:x=false:=by cases x<;>simp_all
         subst this;have h3:(no (set tm (bits d) (some (.bool false)))).run O=some r:=h3;rwa[kc _ _ _ hx]at h3
       . have:x=true:=by cases x<;>simp_all
         subst this;have h3:(no (set tm (bits d) (some (.bool true)))).run O=some r:=h3;rwa[kc _ _ _ hx]at h3
   . rename_i x hx;exact⟨false,rfl,λq=>(by cases q),λ_=>h1⟩
   . cases h1
theorem sO (hle:φ.le φ')(hk:fN φ φ' (hp H) (hp H')):φ.length<=φ'.length:=by
 rcases Nat.eq_zero_or_pos φ.length with h | h
 . omega
 . have hlt:φ.length-1<φ.length:=by omega
   have hq:=List.getElem?_eq_getElem hlt;cases hx:φ[φ.length-1]with
   | none=>rw[hx]at hq;have:=(List.getElem?_eq_some_iff.1 (hk _ hq).1).1;omega
   | some e=>rw[hx]at hq;have:=(List.getElem?_eq_some_iff.1 (hle _ _ hq)).1;omega
theorem HR.X5 {g:Nat->Option OB}(hH:HR P W φ g w){b n:Nat}{t:T Value}{e:iz}(hg:g b=some .dead)(hb:φ[b]? = some (some e))(hob:zx P W φ (.ro n t) e w):HR P W φ (od g b (some (.ro n t))) w where
 below:=hH.below
 gl:=hH.gl
 qw:=λk o h=>by
  by_cases hk:k=b
  . subst hk;exact hH.qw k _ hg
  . rw[aK g hk]at h;exact hH.qw k o h
 pc:=hH.pc
 inj:=λk k' oa oa' x x' h h' hk hk' hla hla' hr=>by
  have hx:∀j oj,od g b (some (.ro n t)) j=some oj->live oj=true->g j=some oj:=by
   intro j oj h hl'
   by_cases hj:j=b
   . subst hj;rw[da]at h;cases h;cases hl'
   . rwa[aK g hj]at h
  exact hH.inj k k' _ _ x x' h h' (hx k _ hk hla) (hx k' _ hk' hla') hla hla' hr
 obj:=λk oa x hk h=>by
  by_cases hkb:k=b
  . subst hkb;rw[da]at hk;cases hk;rw[hb]at h;cases h;exact hob
  . rw[aK g hkb]at hk;exact hH.obj k oa x hk h
 ng:=hH.ng
 sq:=λk k' x x' c o h hf h' hk' hl'=>by
  by_cases hkb:k'=b
  . subst hkb;rw[da]at hk';cases hk';cases hl'
  . rw[aK g hkb]at hk';exact hH.sq k k' x x' c o h hf h' hk' hl'
theorem HR.ghost {g:Nat->Option OB}(hH:HR P W φ g w){e:iz}{c:Array Value}{el:TypeId}{fz:Nat×Nat}(hf:e.fz=some c)(hr:w.heap[e.r]? = some (.cells c el fz))
 (hno:∀(k:Nat) (x:iz) (ob:OB),φ[k]? = some (some x)->g k=some ob->live ob=true->x.r≠e.r):HR P W (φ++[some e]) g w where
 below:=hH.below
 gl:=hH.MD (c_ φ _)
 qw:=λk o h=>by have:=hH.qw k o h;simp;omega
 pc:=λk x h=>by
  rcases bM h with h | ⟨_,h⟩
  . exact hH.pc k x h
  . cases h;exact(Array.getElem?_eq_some_iff.1 hr).1
 inj:=λk k' o1 o2 x x' h h' hg hg' hl hl' hrr=>by
  have l1:=hH.qw k _ hg;have l2:=hH.qw k' _ hg';rcases bM h with h0 | ⟨hk,_⟩
  . rcases bM h' with h1 | ⟨hk',_⟩
    . exact hH.inj k k' o1 o2 x x' h0 h1 hg hg' hl hl' hrr
    . omega
  . omega
 obj:=λk oa x hg h=>by
  have l1:=hH.qw k _ hg;rcases bM h with h0 | ⟨hk,_⟩
  . exact(hH.obj k oa x hg h0).mono (c_ φ _)
  . omega
 ng:=λk x c' h hf'=>by
  rcases bM h with h1 | ⟨_,hx⟩
  . exact hH.ng k x c' h1 hf'
  . cases hx;rw[hf]at hf';cases hf';exact⟨el,fz,hr⟩
 sq:=λk k' x x' c' o h hf' h' hg hl=>by
  have l2:=hH.qw k' _ hg;rcases bM h' with h2 | ⟨hk',_⟩
  . rcases bM h with h1 | ⟨_,hx⟩
    . exact hH.sq k k' x x' c' o h1 hf' h2 hg hl
    . cases hx;exact hno k' x' o h2 hg hl
  . omega
theorem HR.grown {g:Nat->Option OB}(hH:HR P W φ g w)(hb:Below w.heap.size w w'):HR P W φ g w':=by
 have hr:∀(k:Nat) (e:iz),φ[k]? = some (some e)->w'.heap[e.r]? = w.heap[e.r]? := λk e h=>hb.block e.r (hH.pc k e h);exact {
  below:=hH.below.trans (hb.mono hH.below.size)
  gl:=hH.gl
  qw:=hH.qw
  pc:=λk e h=>Nat.lt_of_lt_of_le (hH.pc k e h) hb.size
  inj:=hH.inj
  obj:=λk ob e hg h=>(hH.obj k ob e hg h).heap λ_=>hr k e h
  ng:=λk e c h hf=>by obtain⟨el,fz,q⟩:=hH.ng k e c h hf;exact⟨el,fz,by rw[hr k e h];exact q⟩
  sq:=hH.sq }
theorem qD {a:Bool}{s:Nat}:∀(n:Nat) (l es:List Value),chunk a s n l=some es->(a=false->s=1)->(es.all λx=>bK a true (aj x))=true->
 es.length=n/\l.length=n*s/\(∀x∈es,x.cells.toList.length=s)/\∀(i j:Nat) (x v:Value),es[i]? = some x->x.cells.toList[j]? = some v->l[i*s+j]? = some v
 | 0,l,es,h,_,_=>by
   obtain⟨h1,h2⟩:=aH (show(bif l.isEmpty then some []else none)=some es from h);cases h2;exact⟨rfl,by rw[List.isEmpty_iff.1 h1];simp,λx hx=>by simp at hx,λi j x v hi=>by simp at hi⟩
 | n+1,l,es,h,hs,hone=>by
   obtain⟨h1,h2⟩:=aH (show(bif Nat.ble s l.length then af (chunk a s n (l.drop s)) (λr=>bK a (some (.agg ⟨l.take s⟩::r)) (af l.head? (λv=>some (v::r)) none)) none else none)=some es from h);have h1:=db h1;obtain⟨es',h3,h4⟩:=ar h2;have key:∃x,es=x::es'/\x.cells.toList=l.take s:=by
    cases a with
    | true=>have h4:some (Value.agg ⟨l.take s⟩::es')=some es:=h4;cases h4;exact⟨_,rfl,rfl⟩
    | false=>
      have hs:=hs rfl;subst hs;have h4:af l.head? (λv=>some (v::es')) none=some es:=h4;cases l with
      | nil=>simp at h1
      | cons v l=>
        have h4:some (v::es')=some es:=h4;cases h4;refine⟨v,rfl,?_⟩;have hv:aj v=true:=by
         have:=List.all_eq_true.1 hone v (by simp);exact this
        cases v<;>first | rfl | cases hv
   obtain⟨x,rfl,hx⟩:=key;have hone':(es'.all λx=>bK a true (aj x))=true:=by simp only[List.all_cons,Bool.and_eq_true]at hone;exact hone.2
   obtain⟨h5,h6,h7,h8⟩:=qD n _ _ h3 hs hone';refine⟨by simp[h5],?_,λy hy=> ?_,λi j y v hi hj=> ?_⟩
   . rw[List.length_drop]at h6;rw[Nat.succ_mul];omega
   . rcases List.mem_cons.1 hy with rfl | hy
     . rw[hx];simp;omega
     . exact h7 y hy
   . cases i with
     | zero=>
       simp at hi;subst hi;rw[hx,List.getElem?_take]at hj;split at hj
       . simpa using hj
       . cases hj
     | succ i=>
       have hi:es'[i]? = some y:=by simpa using hi
       have:=h8 i j y v hi hj;rw[List.getElem?_drop]at this;rw[Nat.succ_mul,<- this];congr 1;omega
def gD (P:Program)(W:World)(φ:cK)(H:T OB)(nx:Nat)(w:World)(φ':cK)(H':T OB)(nx':Nat):Prop:=
 φ.le φ'/\HR P W φ' (hp H') w/\φ'.length=nx'/\fN φ φ' (hp H) (hp H')/\nx<=nx'
theorem gD.refl (hH:HR P W φ (hp H) w)(b_:φ.length=nx):gD P W φ H nx w φ H nx:=⟨φ.le_refl,hH,b_,fN.refl _ _,Nat.le_refl _⟩
theorem gD.trans {φ'':cK}{H'':T OB}{nx'':Nat}(h:gD P W φ H nx w φ' H' nx')(h':gD P W φ' H' nx' w φ'' H'' nx''):gD P W φ H nx w φ'' H'' nx'':=
 ⟨cK.le_trans h.1 h'.1,h'.2.1,h'.2.2.1,h.2.2.2.1.trans h'.2.2.2.1,Nat.le_trans h.2.2.2.2 h'.2.2.2.2⟩
theorem kV (hH:HR P W φ (hp H) w)(b_:φ.length=nx){t:TypeId}{v v':Value}(hv:VR φ v v'){g:Value->T OB->Nat->Q}(h:(fM P t v H nx g).run O=some r):
 ∃φ' u H' nx',(g u H' nx').run O=some r/\VR φ' u v'/\gD P W φ H nx w φ' H' nx':=by
 unfold fM at h;split at h
 case h_3=>exact⟨φ,v,H,nx,h,hv,.refl hH b_⟩
 case h_2=>
  rename_i e hu;split at h
  . rename_i b;obtain⟨x,hx,h1⟩:=bF h;rw[aL,aP]at h1;obtain⟨en,hb,_,rfl⟩:=hv.e_;unfold US at hx;obtain⟨m,tr,el,hg,h2⟩:=sj hx;obtain⟨s,hs,h3⟩:=ar h2;obtain⟨a,ha,h4⟩:=ar h3;obtain⟨h5,h6⟩:=aH h4;obtain⟨l,hl,h7⟩:=ar h6;have hms:=beq_eq h5;have key:∃u,x=aa u/\u.cells.toList=l:=by
     cases a with
     | true=>
       have h7:some (aa (.agg ⟨l⟩))=some x:=h7;cases h7;exact⟨_,rfl,rfl⟩
     | false=>
       obtain⟨u,hu',h8⟩:=ar (show af l.head? (λv=>bif Nat.beq l.length 1&&aj v then some (aa v)else none) none=some x from h7);obtain⟨h9,h10⟩:=aH h8;cases h10;simp only[Bool.and_eq_true]at h9;have hl1:=beq_eq h9.1;refine⟨u,rfl,?_⟩;have hcell:u.cells.toList=[u]:=by cases u<;>first | rfl | cases h9.2
       rw[hcell];cases l with
       | nil=>cases hu'
       | cons y l=>
         cases hu';cases l with
         | nil=>rfl
         | cons _ _=>simp at hl1
    obtain⟨u,rfl,hul⟩:=key;have hg':hp H b=some (.cells m tr el):=hg;obtain⟨c,el',hrow,hrsz,hrn,oB⟩:=hH.cells hg' hb;obtain⟨q1,q2⟩:=nC oB hl (by omega) (by omega);have hkill:HR P W φ (hp (set H (bits b) (some .dead))) w:=by rw[bw];exact hH.kill hg' hb
    have hgh:=hkill.ghost (e:=⟨en.r,en.sz,en.es,some c⟩) rfl hrow (λk x ob hk hgk hlk hr=>by
     rw[bw]at hgk
     by_cases hkb:k=b
     . subst hkb;rw[da]at hgk;cases hgk;cases hlk
     . rw[aK _ hkb]at hgk;exact hkb (hH.inj k b _ _ x en hk hb hgk hg' hlk rfl hr))
    refine⟨_,_,_,_,h1,?_,c_ φ _,hgh,by simp[b_],?_,by omega⟩
    . refine VR.ep (e:=⟨en.r,en.sz,en.es,some c⟩) (c:=c) (fp φ _) rfl (by rw[hul,q2];omega) (λj a b' hja hjb=> ?_);rw[hul]at hja;have hjl:=(List.getElem?_eq_some_iff.1 hja).1;refine VR.mono (c_ φ _) (q1.at_ j a b' hja ?_);rw[List.drop_zero,List.getElem?_take,if_pos (by omega),Array.getElem?_toList];rw[Nat.zero_add]at hjb;exact hjb
    . intro k hk;refine⟨?_,?_⟩
      . rw[List.getElem?_append_left (List.getElem?_eq_some_iff.1 hk).1];exact hk
      . rw[bw,aK];intro q;subst q;rw[hb]at hk;cases hk
  . exact⟨φ,v,H,nx,h,hv,.refl hH b_⟩
 rename_i e hu;split at h
 . rename_i b off n cp;obtain⟨hcp,h⟩:=mK h;simp only[Bool.or_eq_true]at hcp;obtain⟨x,hx,h1⟩:=bF h;rw[aL,aP]at h1;obtain⟨en,c',hb,_,rfl,hcap⟩:=hv.fH;unfold Mo at hx;obtain⟨m,tr,el,hg,h2⟩:=sj hx;obtain⟨s,hs,h3⟩:=ar h2;obtain⟨a,ha,h4⟩:=ar h3;obtain⟨h5,h6⟩:=aH h4;obtain⟨l,hl,h7⟩:=ar h6;obtain⟨es,hes,h8⟩:=ar h7;obtain⟨h9,h10⟩:=aH h8;cases h10;simp only[Bool.and_eq_true,Bool.or_eq_true]at h5;have hle:=db h5.1.1;have hs1:a=false->s=1:=λq=>by
    rcases h5.2 with q' | q'
    . rw[q]at q';cases q'
    . exact beq_eq q'
   obtain⟨g1,g2,g3,g4⟩:=qD n l es hes hs1 h9;have hg':hp H b=some (.cells m tr el):=hg;obtain⟨c,el',hrow,hrsz,hrn,oB⟩:=hH.cells hg' hb;obtain⟨q1,q2⟩:=nC oB hl hle (by omega);have hcl:n<=c':=by
    rcases hcap with⟨q,rfl⟩ | ⟨_,q,_⟩
    . rcases hcp with h' | h'
      . exact absurd (beq_eq h') q
      . exact db h'
    . exact q
   have hkill:HR P W φ (hp (set H (bits b) (some .dead))) w:=by rw[bw];exact hH.kill hg' hb
   have hgh:=hkill.ghost (e:=⟨en.r,en.sz,en.es,some c⟩) rfl hrow (λk x ob hk hgk hlk hr=>by
    rw[bw]at hgk
    by_cases hkb:k=b
    . subst hkb;rw[da]at hgk;cases hgk;cases hlk
    . rw[aK _ hkb]at hgk;exact hkb (hH.inj k b _ _ x en hk hb hgk hg' hlk rfl hr))
   have hro:=hgh.X5 (b:=b) (n:=m) (t:=tr) (e:=en) (by rw[bw,da]) (by rw[List.getElem?_append_left (List.getElem?_eq_some_iff.1 hb).1];exact hb) (.inr ⟨_,_,c,fp φ _,rfl,rfl,by omega,oB.mono (c_ φ _)⟩);rw[bw,oy,<- bw]at hro;rw[show XX (H.get (bits b))= .ro m tr by rw[hg];rfl]at h1;refine⟨_,_,_,_,h1,?_,c_ φ _,hro,by simp[b_],?_,by omega⟩
   . rw[<- g1];have hlen:es.length*s=n*s:=by rw[g1]
     refine VR.row (e:=⟨en.r,en.sz,en.es,some c⟩) (c:=c) (fp φ _) rfl g3 (λ_=> ?_) (by omega) (λi j x u u' hi hj hc=> ?_)
     . rw[hlen];omega
     . have h11:=g4 i j x u hi hj;have hlt:=(List.getElem?_eq_some_iff.1 h11).1;refine VR.mono (c_ φ _) (q1.at_ (i*s+j) u u' h11 ?_);rw[List.getElem?_take,if_pos (by omega),List.getElem?_drop,Array.getElem?_toList,<- Nat.add_assoc];exact hc
   . intro k hk;refine⟨?_,?_⟩
     . rw[List.getElem?_append_left (List.getElem?_eq_some_iff.1 hk).1];exact hk
     . rw[bw,aK];intro q;subst q;rw[hb]at hk;cases hk
 . rename_i n c;obtain⟨h1,h2⟩:=mK h;simp only[Bool.and_eq_true]at h1;obtain⟨s,hs,h3⟩:=bF h2;have e1:=beq_eq h1.1;have e2:=beq_eq h1.2;subst e1 e2;have:=hv.al rfl;subst this;exact⟨φ,_,H,nx,h3,.uh s,.refl hH b_⟩
 . exact⟨φ,v,H,nx,h,hv,.refl hH b_⟩
theorem sP:∀(fs:List Field) (cs cs':List Value) (φ:cK) (H:T OB) (nx:Nat),HR P W φ (hp H) w->φ.length=nx->LR φ cs cs'->∀{g:List Value->T OB->Nat->Q},(Mp P fs cs H nx g).run O=some r->
 ∃φ' us H' nx',(g us H' nx').run O=some r/\LR φ' us cs'/\gD P W φ H nx w φ' H' nx'
 | [],cs,cs',φ,H,nx,hH,b_,hl,g,h=>⟨φ,cs,H,nx,h,hl,.refl hH b_⟩
 | f::fs,cs,cs',φ,H,nx,hH,b_,hl,g,h=>by
   obtain⟨v,hv,h1⟩:=bF (show(af cs[f.offset]? (λv=>fM P f.type v H nx λv H nx=>Mp P fs (cs.set f.offset v) H nx g) .bad).run O=some r from h);obtain⟨v',hv',hvr⟩:=hl.get hv;obtain⟨φ1,u,H1,av,h2,h3,h4⟩:=kV hH b_ hvr h1;have hl1:LR φ1 (cs.set f.offset u) cs':=by
    have:=(hl.mono h4.1).set f.offset h3
    have e:cs'.set f.offset v'=cs':=by
     refine List.ext_getElem? λi=> ?_;rw[List.getElem?_set]
     by_cases hi:f.offset=i
     . subst hi;rw[if_pos rfl,hv',if_pos (List.getElem?_eq_some_iff.1 hv').1]
     . rw[if_neg hi]
    rw[e]at this;exact this
   obtain⟨φ2,us,H2,nx2,h5,h6,h7⟩:=sP fs _ cs' φ1 H1 av h4.2.1 h4.2.2.1 hl1 h2;exact⟨φ2,us,H2,nx2,h5,h6,h4.trans h7⟩
theorem BF (hH:HR P W φ (hp H) w)(b_:φ.length=nx){t:TypeId}{v v':Value}(hv:VR φ v v'){g:Value->T OB->Nat->Q}(h:(fl P t v H nx g).run O=some r):
 ∃φ' u H' nx',(g u H' nx').run O=some r/\VR φ' u v'/\gD P W φ H nx w φ' H' nx':=by
 unfold fl at h;split at h
 . split at h
   . obtain⟨c',rfl,h1⟩:=hv.mI;obtain⟨φ',us,H',nx',h2,h3,h4⟩:=sP _ _ _ _ _ _ hH b_ h1 h;exact⟨φ',_,H',nx',h2,h3.agg,h4⟩
   . cases h
 . exact kV hH b_ hv h
def Iq (P:Program)(W:World)(O:bu->Option Rt)(w:World)(one:Value->T OB->Nat->(Value->T OB->Nat->Q)->Q):Prop:=
 ∀(v v':Value) (φ:cK) (H:T OB) (nx:Nat) (r:Rt),HR P W φ (hp H) w->φ.length=nx->VR φ v v'->∀{g:Value->T OB->Nat->Q},(one v H nx g).run O=some r->
  ∃φ' u H' nx',(g u H' nx').run O=some r/\VR φ' u v'/\gD P W φ H nx w φ' H' nx'
theorem nJ {one:TypeId->Value->T OB->Nat->(Value->T OB->Nat->Q)->Q}(ho:∀t,Iq P W O w (one t)):∀(l:List (Nat×TypeId)) (cs cs':List Value) (φ:cK) (H:T OB) (nx:Nat),HR P W φ (hp H) w->φ.length=nx->LR φ cs cs'->∀{g:List Value->T OB->Nat->Q},(F6 one l cs H nx g).run O=some r->
 ∃φ' us H' nx',(g us H' nx').run O=some r/\LR φ' us cs'/\us.length=cs.length/\gD P W φ H nx w φ' H' nx'
 | [],cs,cs',φ,H,nx,hH,b_,hl,g,h=>⟨φ,cs,H,nx,h,hl,rfl,.refl hH b_⟩
 | p::l,cs,cs',φ,H,nx,hH,b_,hl,g,h=>by
   obtain⟨v,hv,h1⟩:=bF (show(af cs[p.1]? (λv=>one p.2 v H nx λv H nx=>F6 one l (cs.set p.1 v) H nx g) .bad).run O=some r from h);obtain⟨v',hv',hvr⟩:=hl.get hv;obtain⟨φ1,u,H1,av,h2,h3,h4⟩:=ho p.2 v v' φ H nx r hH b_ hvr h1;have hl1:LR φ1 (cs.set p.1 u) cs':=by
    have:=(hl.mono h4.1).set p.1 h3
    have e:cs'.set p.1 v'=cs':=by
     refine List.ext_getElem? λi=> ?_;rw[List.getElem?_set]
     by_cases hi:p.1=i
     . subst hi;rw[if_pos rfl,hv',if_pos (List.getElem?_eq_some_iff.1 hv').1]
     . rw[if_neg hi]
    rw[e]at this;exact this
   obtain⟨φ2,us,H2,nx2,h5,h6,h8,h7⟩:=nJ ho l _ cs' φ1 H1 av h4.2.1 h4.2.2.1 hl1 h2;exact⟨φ2,us,H2,nx2,h5,h6,by rw[h8,List.length_set],h4.trans h7⟩
def Y6 (φ:cK)(s:Nat)(c:Array Value)(o:Nat)(es:List Value):Prop:=
 (∀x∈es,x.cells.toList.length=s)/\∀(i j:Nat) (x v v':Value),es[i]? = some x->x.cells.toList[j]? = some v->c[o+i*s+j]? = some v'->VR φ v v'
theorem sQ {one:TypeId->Value->T OB->Nat->(Value->T OB->Nat->Q)->Q}(ho:∀t,Iq P W O w (one t))(offs:List (Nat×TypeId)){s:Nat}{c:Array Value}:∀(es:List Value) (o:Nat) (φ:cK) (H:T OB) (nx:Nat),HR P W φ (hp H) w->φ.length=nx->Y6 φ s c o es->o+es.length*s<=c.size->
 ∀{g:List Value->T OB->Nat->Q},(lV (lU one offs) es H nx g).run O=some r->
 ∃φ' us H' nx',(g us H' nx').run O=some r/\Y6 φ' s c o us/\us.length=es.length/\gD P W φ H nx w φ' H' nx'
 | [],o,φ,H,nx,hH,b_,hl,hn,g,h=>⟨φ,[],H,nx,h,⟨λx hx=>by simp at hx,λi j x v v' hi=>by simp at hi⟩,rfl,.refl hH b_⟩
 | x::es,o,φ,H,nx,hH,b_,hl,hn,g,h=>by
   have h:(lU one offs x H nx λv H nx=>lV (lU one offs) es H nx λl H nx=>g (v::l) H nx).run O=some r:=h;have hxs:=hl.1 x (by simp);rw[List.length_cons,Nat.add_mul,Nat.one_mul]at hn;have step:∃φ1 u H1 av,(lV (lU one offs) es H1 av λl H nx=>g (u::l) H nx).run O=some r/\gD P W φ H nx w φ1 H1 av/\u.cells.toList.length=s/\∀(j:Nat) (v v':Value),u.cells.toList[j]? = some v->c[o+j]? = some v'->VR φ1 v v':=by
    have hx0:∀(j:Nat) (v v':Value),x.cells.toList[j]? = some v->c[o+j]? = some v'->VR φ v v':=λj v v' hj hc=>hl.2 0 j x v v' rfl hj (by rw[Nat.zero_mul,Nat.add_zero];exact hc)
    by_cases hag:∃cs,x= .agg ⟨cs⟩
    . obtain⟨cs,rfl⟩:=hag;have hlen:((c.toList.drop o).take s).length=s:=by simp;omega
      have hcs:LR φ cs ((c.toList.drop o).take s):=⟨by rw[hlen];exact hxs,λj v v' hj hj'=>hx0 j v v' hj (by
       have hjl:=(List.getElem?_eq_some_iff.1 hj').1;rw[List.getElem?_take,if_pos (by omega),List.getElem?_drop,Array.getElem?_toList]at hj';exact hj')⟩
      obtain⟨φ1,us,H1,av,h2,h3,h8,h4⟩:=nJ ho offs cs _ φ H nx hH b_ hcs h;refine⟨φ1,.agg ⟨us⟩,H1,av,h2,h4,by rw[<- hxs];exact h8,λj v v' hj hc=>h3.at_ j v v' hj ?_⟩;have hjl:j<us.length:=(List.getElem?_eq_some_iff.1 hj).1;have hxs':cs.length=s:=hxs;rw[List.getElem?_take,if_pos (by omega),List.getElem?_drop,Array.getElem?_toList];exact hc
    . have e:lU one offs x H nx (λv H nx=>lV (lU one offs) es H nx λl H nx=>g (v::l) H nx)=lV (lU one offs) es H nx λl H nx=>g (x::l) H nx:=by
       cases x<;>first | rfl | exact absurd ⟨_,rfl⟩ hag
      rw[e]at h;exact⟨φ,x,H,nx,h,.refl hH b_,hxs,hx0⟩
   obtain⟨φ1,u,H1,av,h2,h4,hu,hu'⟩:=step;obtain⟨φ2,us,H2,nx2,h5,h6,h8,h7⟩:=sQ ho offs es (o+s) φ1 H1 av h4.2.1 h4.2.2.1 ⟨λy hy=>hl.1 y (by simp[hy]),λi j y v v' hi hj hc=>(hl.2 (i+1) j y v v' hi hj (by rw[Nat.add_mul,Nat.one_mul];rw[<- hc];congr 1;omega)).mono h4.1⟩ (by omega) h2;refine⟨φ2,u::us,H2,nx2,h5,⟨λy hy=> ?_,λi j y v v' hi hj hc=> ?_⟩,by rw[List.length_cons,h8,List.length_cons],h4.trans h7⟩
   . rcases List.mem_cons.1 hy with rfl | hy
     . exact hu
     . exact h6.1 y hy
   . cases i with
     | zero=>
       cases hi;rw[Nat.zero_mul,Nat.add_zero]at hc;exact(hu' j v v' hj hc).mono h7.1
     | succ i=>
       refine h6.2 i j y v v' hi hj ?_;rw[Nat.add_mul,Nat.one_mul]at hc;rw[<- hc];congr 1;omega
theorem nK:∀(d:Nat) (t:TypeId),Iq P W O w (kQ P d t)
 | 0,t=>λv v' φ H nx r hH b_ hv g h=>kV hH b_ hv h
 | d+1,t=>λv v' φ H nx r hH b_ hv g h=>by
   obtain⟨φ1,u,H1,av,h1,h2,h3⟩:=kV hH b_ hv (show(fM P t v H nx λu H nx=>bif zj v then(match P.underlying t with | some (.slice e)=>ib u (λs es=>lV (lU (kQ P d) (ei P 4 e)) es H nx λes H nx=>bif es.all λx=>Nat.beq x.cells.toList.length s then g (aM s es) H nx else .bad) .bad | _=>g u H nx)else g u H nx).run O=some r from h);cases hb:zj v with
   | false=>
     rw[hb]at h1;exact⟨φ1,u,H1,av,h1,h2,h3⟩
   | true=>
     rw[hb,cond_true]at h1;split at h1
     . rename_i e _;obtain⟨s,es,rfl,h4⟩:∃s es,u=aM s es/\(lV (lU (kQ P d) (ei P 4 e)) es H1 av λes H nx=>bif es.all λx=>Nat.beq x.cells.toList.length s then g (aM s es) H nx else .bad).run O=some r:=by
        unfold ib at h1;split at h1
        . exact⟨_,_,rfl,h1⟩
        . cases h1
       rcases h2.jA with⟨rfl,_⟩ | ⟨k,o,c',en,c,g1,g2,g3,g4,g5,g6,rfl⟩
       . exact⟨φ1,_,H1,av,h4,h2,h3⟩
       . cases es with
         | nil=>exact⟨φ1,_,H1,av,h4,h2,h3⟩
         | cons x es=>
           obtain⟨φ2,us,H2,nx2,k1,k2,k3,k4⟩:=sQ (λt=>nK d t) _ (x::es) o φ1 H1 av h3.2.1 h3.2.2.1 ⟨g3,g6⟩ (g4 (by simp)) h4;obtain⟨k5,k6⟩:=mK k1;refine⟨φ2,_,H2,nx2,k6,?_,h3.trans k4⟩;rw[<- k3];exact VR.row (k4.1 _ _ g1) g2 k2.1 (λ_=>by rw[k3];exact g4 (by simp)) (by rw[k3];exact g5) k2.2
     . exact⟨φ1,u,H1,av,h1,h2,h3⟩
theorem BG (hH:HR P W φ (hp H) w)(b_:φ.length=nx){t:TypeId}{v v':Value}(hv:VR φ v v'){g:Value->T OB->Nat->Q}(h:(ch P t v H nx g).run O=some r):
 ∃φ' u H' nx',(g u H' nx').run O=some r/\VR φ' u v'/\gD P W φ H nx w φ' H' nx':=by
 unfold ch at h;cases hb:nw v with
 | false=>
   rw[hb]at h;exact nK 100000 t v v' φ H nx r hH b_ hv h
 | true=>
   rw[hb,cond_true]at h;cases v<;>first | cases hb | skip
   rename_i cs;obtain⟨cs⟩:=cs;obtain⟨c',rfl,h1⟩:=hv.mI;obtain⟨φ',us,H',nx',h2,h3,_,h4⟩:=nJ (λt=>nK 100000 t) _ _ _ _ _ _ hH b_ h1 h;exact⟨φ',_,H',nx',h2,h3.agg,h4⟩
theorem nL (ts:Array TypeId):∀(l:List Nat) (vs vs':List Value) (φ:cK) (H:T OB) (nx:Nat),HR P W φ (hp H) w->φ.length=nx->LR φ vs vs'->∀{g:List Value->T OB->Nat->Q},(zk P ts l vs H nx g).run O=some r->
 ∃φ' us H' nx',(g us H' nx').run O=some r/\LR φ' us vs'/\gD P W φ H nx w φ' H' nx'
 | [],cs,cs',φ,H,nx,hH,b_,hl,g,h=>⟨φ,cs,H,nx,h,hl,.refl hH b_⟩
 | i::l,cs,cs',φ,H,nx,hH,b_,hl,g,h=>by
   have go:∀(m:Nat) (t:TypeId) (v v':Value),cs[m]? = some v->cs'[m]? = some v'->(∃φ1 u H1 av,(zk P ts l (cs.set m u) H1 av g).run O=some r/\VR φ1 u v'/\gD P W φ H nx w φ1 H1 av)->
    ∃φ' us H' nx',(g us H' nx').run O=some r/\LR φ' us cs'/\gD P W φ H nx w φ' H' nx':=by
    intro m t v v' hv hv' ⟨φ1,u,H1,av,h2,h3,h4⟩;have hl1:LR φ1 (cs.set m u) cs':=by
     have:=(hl.mono h4.1).set m h3
     have e:cs'.set m v'=cs':=by
      refine List.ext_getElem? λj=> ?_;rw[List.getElem?_set]
      by_cases hi:m=j
      . subst hi;rw[if_pos rfl,hv',if_pos (List.getElem?_eq_some_iff.1 hv').1]
      . rw[if_neg hi]
     rw[e]at this;exact this
    obtain⟨φ2,us,H2,nx2,h5,h6,h7⟩:=nL ts l _ cs' φ1 H1 av h4.2.1 h4.2.2.1 hl1 h2;exact⟨φ2,us,H2,nx2,h5,h6,h4.trans h7⟩
   have h:(bif Nat.ble 1000 i then af ts[i-1000]? (λt=>af cs[i-1000]? (λv=>ch P t v H nx λv H nx=>zk P ts l (cs.set (i-1000) v) H nx g) .bad) .bad else
    af ts[i]? (λt=>af cs[i]? (λv=>fl P t v H nx λv H nx=>zk P ts l (cs.set i v) H nx g) .bad) .bad:Q).run O=some r:=h
   cases hb:Nat.ble 1000 i with
   | true=>
     rw[hb,cond_true]at h;obtain⟨t,_,h0⟩:=bF h;obtain⟨v,hv,h1⟩:=bF h0;obtain⟨v',hv',hvr⟩:=hl.get hv;exact go _ t v v' hv hv' (BG hH b_ hvr h1)
   | false=>
     rw[hb,cond_false]at h;obtain⟨t,_,h0⟩:=bF h;obtain⟨v,hv,h1⟩:=bF h0;obtain⟨v',hv',hvr⟩:=hl.get hv;exact go _ t v v' hv hv' (BF hH b_ hvr h1)
def XJ (tmps:Array Value):ResultVar->Sem Value
 | .tmp t=>pure (tmps.getD t undef)
 | .cell a t=>do loadVar t (<- asAddr (tmps.getD a undef))
theorem nM (hH:HR P W φ (hp H) w)(htr:zM φ (λ_=>False) tm tmps):∀(l:List ResultVar) {g:List Value->Q},(F7 P H tm l g).run O=some r->
 ∃vs vs',(g vs).run O=some r/\LR φ vs vs'/\(l.mapM (XJ tmps)).run P w= .ok vs' w
 | [],g,h=>⟨[],[],h,.nil,rfl⟩
 | .tmp t::l,g,h=>by
   obtain⟨v,hv,h1⟩:=bF (show(af (tm.get (bits t)) (λv=>F7 P H tm l λvs=>g (v::vs)) .bad).run O=some r from h);obtain⟨us,us',h2,h3,h4⟩:=nM hH htr l h1;obtain⟨v',h5,h6⟩:=(htr t v hv).resolve_left id;refine⟨v::us,v'::us',h2,.cons h6 h3,?_⟩;have e:tmps.getD t undef=v':=by simp[Array.getD_eq_getD_getElem?,h5]
   simp only[List.mapM_cons,XJ,Sem.run_bind,Sem.run_pure,Result.andThen_ok,e,h4]
 | .cell a t::l,g,h=>by
   obtain⟨v,hv,h1⟩:=bF (show(af (ai P H t (tm.get (bits a))) (λv=>F7 P H tm l λvs=>g (v::vs)) .bad).run O=some r from h);obtain⟨us,us',h2,h3,h4⟩:=nM hH htr l h1;cases ha:tm.get (bits a)with
   | none=>rw[ha]at hv;cases hv
   | some pv=>
     rw[ha]at hv;obtain⟨pv',h5,h6⟩:=(htr a pv ha).resolve_left id;obtain⟨v',ad,h7,h8,h9⟩:=ot hH (y:=pv') (λu hu=>by cases hu;exact h6) hv;subst h7;refine⟨v::us,v'::us',h2,.cons h8 h3,?_⟩;have e1:tmps.getD a undef= .pointer (some ad):=by simp[Array.getD_eq_getD_getElem?,h5]
     simp only[List.mapM_cons,XJ,Sem.run_bind,e1,asAddr,Sem.run_pure,Result.andThen_ok,h9,h4]
theorem MI {vs vs':List Value}(h:LR φ vs vs'):VR φ (UU vs) (if h:vs'.toArray.size=1 then vs'.toArray[0]else .tuple vs'.toArray):=by
 cases vs with
 | nil=>cases h.mH;exact .flat _ rfl
 | cons a l=>
   obtain⟨a',l',rfl,h4,h5⟩:=h.inv;cases l with
   | nil=>cases h5.mH;exact h4
   | cons b m=>
     obtain⟨b',m',rfl,_,_⟩:=h5.inv;rw[dif_neg (by simp)];exact h.tuple
theorem gD.fin (h:gD P W φ H nx w φ' H' nx'){rc:Bool}(h':dD P W kd fn lo cs0 rc φ' H' r fr w):dD P W kd fn lo cs0 rc φ H r fr w:=
 h'.steps (.refl _ _) h.1 λk _ q=>h.2.2.2.1 k q
theorem MJ {pl:kP}(hH:HR P W φ (hp H) w)(b_:φ.length=nx)(hkd:c.kd=kd)(hfn:c.fn=fn)(htr:zM φ (λ_=>False) tm tmps)(h:(Q4 P pl c tm H nx).run O=some r):
 dD P W kd fn lo cs0 c.rc φ H r { dM (cB c []) tmps todo with mode:= .returning } w:=by
 unfold Q4 at h;obtain⟨fd,hfd,h1⟩:=bF h;obtain⟨vs,vs',h2,h3,h4⟩:=nM hH htr _ h1;obtain⟨φ',us,H',nx',h5,h6,h7⟩:=nL fd.resultTypes _ _ _ φ H nx hH b_ h3 h2;have h5:=rm h5;subst h5;have h8:(results fd tmps).run P w= .ok (if h:vs'.toArray.size=1 then vs'.toArray[0]else .tuple vs'.toArray) w:=by
  have e:results fd tmps=(do let vs <- fd.results.mapM (XJ tmps);pure (if h:vs.size=1 then vs[0]else .tuple vs)):=rfl;rw[e,Sem.run_bind,Array.mapM_eq_mapM_toList,Sem.run_map,h4];rfl
 refine h7.fin ⟨φ',w,_,.refl _ _,φ'.le_refl,h7.2.1,h7.2.2.1,λk _ q=>⟨q,rfl⟩,?_,?_,_,MI h6,rfl,rfl,fd,?_,h8⟩
 . show kindOf c.kd=kindOf kd;rw[hkd]
 . exact hfn
 . exact hfd
end
section
variable {P:Program}{W w w' w1:World}{f fn:FuncId}{cs cs0:List Frame}{r r1:Rt}{fr fr' fr1:Frame}{φ φ' φ1:cK}{H H' H1:T OB}{nx nx' av nt lo hi:Nat}{tm:T Value}{tmps:Array Value}{ops:Array Oper}
 {todo k:List Item} {c:Cg} {ds:List Deferred} {kd:Bool} {O:bu->Option Rt} {pl:kP}
structure Fx (P:Program)(W:World)(lo:Nat)(cs0:List Frame)(c:Cg)(φ:cK)(H:T OB)(nx:Nat)(tmps:Array Value)(ds:List Deferred)(w:World):Prop where
 hH:HR P W φ (hp H) w
 b_:φ.length=nx
 nh:lo<=nx
 lX:tmps.size=c.nt
 we:Ph P φ c.df ds
 oB:BB φ c.kd c.rp c.rc cs0
def oI (P:Program)(W:World)(c:Cg)(tm:T Value)(todo:List Item)(H:T OB)(nx:Nat)(r:Rt):Prop:=
 ∀φ w lo tmps ds cs0,Fx P W lo cs0 c φ H nx tmps ds w->zM φ (λ_=>False) tm tmps->dD P W c.kd c.fn lo cs0 c.rc φ H r (dM (cB c ds) tmps todo) w
def Ro (P:Program)(W:World)(f:FuncId)(args:List Value)(kd:Bool)(rp:Option Value)(H:T OB)(nx:Nat)(r:Rt):Prop:=
 ∀φ w args' cs0,HR P W φ (hp H) w->φ.length=nx->LR φ args args'->BB φ kd rp false cs0->dD P W kd f nx cs0 false φ H r (Frame.enter P f args'.toArray (kindOf kd)) w
def Ir (P:Program)(W:World)(q:bu)(r:Rt):Prop:=match q with
 | .call f args kd rp H nx=>Ro P W f args kd rp H nx r
 | .at c tm todo H nx=>oI P W c tm todo H nx r
def lC (P:Program)(W:World)(O:bu->Option Rt):Prop:=∀q r,O q=some r->Ir P W q r
def C7 (P:Program)(W:World)(O:bu->Option Rt)(K:Kt)(todo:List Item):Prop:=∀c tm H nx r,(K c tm H nx).run O=some r->oI P W c tm todo H nx r
theorem oI.step1 {todo':List Item}(hs:∀(ds:List Deferred) (tmps:Array Value) (cs:List Frame) (w:World),Steps P (lone (dM (cB c ds) tmps todo) cs w) (lone (dM (cB c ds) tmps todo') cs w))(h:oI P W c tm todo' H nx r):
 oI P W c tm todo H nx r:=λφ w lo tmps ds cs0 x htr=>(h φ w lo tmps ds cs0 x htr).step1 (hs _ _ _ _)
theorem zV (hk:∀k,k<φ.length->φ[k]? = some none->φ'[k]? = some none/\hp H' k=hp H k):fN φ φ' (hp H) (hp H'):=λk q=>hk k (List.getElem?_eq_some_iff.1 q).1 q
inductive XK (φ:cK):Mq->Option Value->Prop
 | ret:XK φ .ret none
 | gv {v v':Value} (h:VR φ v v'):XK φ (.gv v) (some v')
theorem Gp (m:Option Value):gC m ≠ .run:=by cases m<;>simp[gC]
theorem rr (hO:lC P W O):∀(l:List (FuncId×List Value)) (m:Mq) (mv:Option Value) (φ:cK) (H:T OB) (nx:Nat) (ds:List Deferred) (w:World),HR P W φ (hp H) w->φ.length=nx->lo<=nx->Ph P φ l ds->XK φ m mv->
 zM φ (λ_=>False) tm tmps->(om P pl c tm l m H nx).run O=some r->dD P W c.kd c.fn lo cs0 c.rc φ H r { dM (cB c ds) tmps todo with mode:=gC mv } w
 | [],m,mv,φ,H,nx,ds,w,hH,b_,nh,we,hm,htr,h=>by
   cases we;have h:(Be P pl c tm m H nx).run O=some r:=h;unfold Be at h;cases hm with
   | ret=>exact MJ hH b_ rfl rfl htr h
   | @gv v v' hv=>
     obtain⟨fd,hfd,h⟩:=bF h;have h:=rm h;subst h;exact⟨φ,w,_,.refl _ _,φ.le_refl,hH,b_,λk _ q=>⟨q,rfl⟩,rfl,rfl,v',hv,rfl,rfl,fd,hfd⟩
 | (g,args)::l,m,mv,φ,H,nx,ds,w,hH,b_,nh,we,hm,htr,h=>by
   cases we with
   | @cons _ d' _ ds' hd hl=>
     obtain⟨a',cap',rfl,hLR,hok⟩:=hd;obtain⟨r1,h1,h2⟩:=oG (show(Q.ask (.call g args true (Q3 m) H nx) λr=>UW m r (om P pl c tm l)).run O=some r from h);have hinv:(invoke (.fn (.func g) ⟨cap'⟩) a').run P w= .ok (.enter g (a'++⟨cap'⟩)) w:=oE hok _ _;have e:(a'++⟨cap'⟩:Array Value)=(a'.toList++cap').toArray:=Array.ext' (by simp);have hst:=step_defer (P:=P) (fr:={ dM (cB c ({ target:= .fn (.func g) ⟨cap'⟩,args:=a' }::ds')) tmps todo with mode:=gC mv }) (cs:=eK c.rc cs0) (Gp mv) rfl rfl hinv;rw[e]at hst;have hrcv:BB φ true (Q3 m) false ({ dM (cB c ds') tmps todo with mode:=gC mv }::eK c.rc cs0):=λ_=>by
      cases hm with
      | ret=>exact λF hF=>(iL (C:={ dM (cB c ds') tmps todo with mode:=gC none }) (cs:=eK c.rc cs0) hF).trans rfl
      | gv hv=>exact⟨rfl,_,_,_,[],rfl,rfl,hv⟩
     obtain⟨φ1,w1,frl,s1,hle,hH1,hl1,hk1,hkk,hff,ho1⟩:=hO _ _ h1 φ w _ _ hH b_ hLR hrcv;unfold UW at h2;cases hr1:r1.o with
     | gv v=>rw[hr1]at h2;cases h2
     | ret v=>
       rw[hr1]at h2 ho1;obtain⟨v',hv',hgo⟩:=ho1;have h2:(om P pl c tm l (bK r1.rc .ret m) r1.H r1.nx).run O=some r:=h2;have hlen:=sO hle (zV (λk hk q=>hk1 k (by rw[<- b_];exact hk) q));have back:∃mv1,XK φ1 (bK r1.rc .ret m) mv1/\Steps P (lone frl (eK r1.rc ({ dM (cB c ds') tmps todo with mode:=gC mv }::eK c.rc cs0)) w1) (lone { dM (cB c ds') tmps todo with mode:=gC mv1 } (eK c.rc cs0) w1):=by
        cases oB:r1.rc with
        | false=>
          cases hm with
          | ret=>exact⟨none,.ret,.one (step_going_returned (c:={ dM (cB c ds') tmps todo with mode:=gC none }) hkk hgo)⟩
          | gv hv=>exact⟨some _,.gv (hv.mono hle),.one (step_going_returned (c:={ dM (cB c ds') tmps todo with mode:=gC (some _) }) hkk hgo)⟩
        | true=>
          refine⟨none,.ret,?_⟩;cases hm with
          | ret=>exact .one (step_going_returned (c:={ dM (cB c ds') tmps todo with mode:=gC none }) hkk hgo)
          | @gv u u' hv=>exact .one (step_going_returned (c:={ dM (cB c ds') tmps todo with mode:= .panicking [{ v:=u',recovered:=true }] }) hkk hgo)
       obtain⟨mv1,hm1,hs1⟩:=back;have ih:=rr hO l (bK r1.rc .ret m) mv1 φ1 r1.H r1.nx ds' w1 hH1 hl1 (by omega) (hl.mono hle) hm1 (htr.mono hle) h2;exact ih.steps (.head hst (s1.trans hs1)) hle λk hk q=>hk1 k (by omega) q
theorem pZ (hO:lC P W O)(ht:todo=[]\/∃k,todo= .code .ret::k):C7 P W O (vV P pl) todo:=λc tm H nx r h φ w lo tmps ds cs0 x htr=>by
 have hs:Steps P (lone (dM (cB c ds) tmps todo) (eK c.rc cs0) w) (lone { dM (cB c ds) tmps todo with mode:=gC none } (eK c.rc cs0) w):=by
  rcases ht with rfl | ⟨k,rfl⟩
  . exact .one (step_end (b:=dM (cB c ds) #[] []) (a:=⟨tmps,ds⟩))
  . exact .one (step_ret (b:=dM (cB c ds) #[] []) (a:=⟨tmps,ds⟩))
 exact(rr hO c.df .ret none φ H nx ds w x.hH x.b_ x.nh x.we .ret htr h).step1 hs
theorem C8 (hO:lC P W O){g:FuncId}{args args':List Value}(h1:O (.call g args false none H nx)=some r1)(hH:HR P W φ (hp H) w)(b_:φ.length=nx)(hLR:LR φ args args'){C:Frame}(hC:C.mode= .run)(cs:List Frame):
 ∃φ1 w1,φ.le φ1/\HR P W φ1 (hp r1.H) w1/\φ1.length=r1.nx/\fN φ φ1 (hp H) (hp r1.H)/\nx<=r1.nx/\(match r1.o with
  | .ret v=>∃v',VR φ1 v v'/\Steps P (lone (Frame.enter P g args'.toArray .normal) (C::cs) w) (lone (C.finish v') cs w1)
  | .gv v=>∃v',VR φ1 v v'/\Steps P (lone (Frame.enter P g args'.toArray .normal) (C::cs) w) (lone { C with mode:=gC (some v') } cs w1)):=by
 have hC':∀l,C.mode ≠ .panicking l:=λl q=>by rw[hC]at q;cases q
 obtain⟨φ1,w1,frl,s1,hle,hH1,hl1,hk1,hkk,hff,ho1⟩:=hO _ _ h1 φ w _ (C::cs) hH b_ hLR (λq=>by cases q);have hkeep:fN φ φ1 (hp H) (hp r1.H):=zV (λk hk q=>hk1 k (by rw[<- b_];exact hk) q);rw[zU _ hC',zU _ hC']at s1;refine⟨φ1,w1,hle,hH1,hl1,hkeep,by have:=sO hle hkeep;omega,?_⟩;cases hr1:r1.o with
 | ret v=>
   rw[hr1]at ho1;obtain⟨v',hv',hgo⟩:=ho1;refine⟨v',hv',s1.trans (.one (step_leave_returned ?_))⟩;obtain⟨a,b,c⟩:=hgo;exact⟨a,b,hkk,c⟩
 | gv v=>
   rw[hr1]at ho1;obtain⟨v',hv',hgo⟩:=ho1;refine⟨v',hv',s1.trans (.one ?_)⟩;have:=step_going_panicked (c:=C) (cs:=cs) hgo;rw[show raised C.mode [{ v:=v',recovered:=false }]=gC (some v')from by rw[hC];rfl]at this;exact this
theorem wg {fb:FB}{o:Oper}{i:Nat}{rest:List Nat}{v:Value}(ho:ops[i]? = some o)(hw:Region.wanted o (yielded ops tmps)=true)
 (he:jR P W φ H w ((execOp (dX tmps) o).run P w) v H' nx'):
 ∃φ' v' w',step P (lone (dM fb tmps (.inRegion ops (i::rest)::k)) cs w)= .next (lone (dM fb (kb tmps o.dst v') (.inRegion ops rest::k)) cs w')/\
  VR φ' v v'/\φ.le φ'/\HR P W φ' (hp H') w'/\φ'.length=nx'/\fN φ φ' (hp H) (hp H'):=by
 obtain⟨φ',v',w',x,hr,hx,h1,h2,h3,h4,h5⟩:=he;refine⟨φ',v',w',?_,h1,h2,h3,h4,h5⟩;rcases hx with rfl | ⟨rfl,rfl⟩
 . exact fq ho hw hr
 . exact sI ho hw hr
theorem Is {l:List Operand}:∀t,Operand.tmp t∈l->¬(λ(_:Nat)=>False) t:=λ_ _ h=>h
theorem Fx.next (x:Fx P W lo cs0 c φ H nx tmps ds w)(hle:φ.le φ')(hH:HR P W φ' (hp H') w')(hl:φ'.length=nx')(hn:nx<=nx'){tmps':Array Value}(lX:tmps'.size=tmps.size):Fx P W lo cs0 c φ' H' nx' tmps' ds w':=
 ⟨hH,hl,Nat.le_trans x.nh hn,lX.trans x.lX,x.we.mono hle,x.oB.mono hle⟩
theorem zM.refine {M:Nat->Prop}(h:zM φ M tm tmps){d:Tmp}{v v':Value}(hd:tmps[d]? = some v')(hv:VR φ v v'):zM φ M (cG tm (some d) v) tmps:=λt u q=>by
 rw[gq]at q;split at q
 . rename_i e;cases e;cases q;exact .inr ⟨v',hd,hv⟩
 . exact h t u q
theorem It (hH:HR P W φ (hp H) w)(b_:φ.length=nx){o:Oper}{e:TypeId}{x:Operand}(ho:o.op= .box e x)(hE:∀v,bq P tm x=some v->VR φ v (dX tmps x)){u:Value}(hu:bq P tm x=some u):
 ∃φ' v' w',(execOp (dX tmps) o).run P w= .ok (.value v') w'/\VR φ' (aa u) v'/\φ.le φ'/\HR P W φ' (hp H) w'/\φ'.length=nx+1/\fN φ φ' (hp H) (hp H):=by
 have hc:=(hE u hu).cells;have hb:Below w.heap.size w (w.alloc (.cells (dX tmps x).cells e)):=(Below.refl w.heap.size w).alloc (Nat.le_refl _) _;refine⟨φ++[some ⟨w.heap.size,0,0,some (dX tmps x).cells⟩],.pointer (some ⟨w.heap.size,0,none⟩),w.alloc (.cells (dX tmps x).cells e),?_,?_,c_ φ _,?_,by simp[b_],?_⟩
 . simp[execOp,ho,Instr.box,newVar,newRow]
 . refine VR.ep (e:=⟨w.heap.size,0,0,some (dX tmps x).cells⟩) (fp φ _) rfl (by rw[hc.len];simp) (λj a b ha hb=> ?_);rw[Nat.zero_add]at hb;exact(hc.at_ j a b ha (by simpa using hb)).mono (c_ φ _)
 . refine(hH.grown hb).ghost (el:=e) (fz:=(0,0)) rfl (Go.heap_alloc_new w _) (λk y ob hk _ _ q=> ?_);have:=hH.pc k y hk;have q:y.r=w.heap.size:=q;omega
 . intro k hk;refine⟨?_,rfl⟩;rw[List.getElem?_append_left (List.getElem?_eq_some_iff.1 hk).1];exact hk
theorem BH (hH:HR P W φ (hp H) w)(b_:φ.length=nx){o:Oper}{t:TypeId}{d:Tmp}{x:Operand}(ho:o.op= .store t (.tmp d) x)(hE:pe P φ tm (dX tmps) [.tmp d,x]){b n s:Nat}{tr:T Value}{el:TypeId}{u:Value}
 (ha:bq P tm (.tmp d)=some (.pointer (some ⟨b,0,none⟩))) (hu:bq P tm x=some u) (hg:H.get (bits b)=some (.cells n tr el)) (hs:aN P t=some s) (hn:n=s) (hl:u.cells.toList.length=s) (hone:u.cells.toList.all aj=true):
 ∃φ' v' w' y,(execOp (dX tmps) o).run P w= .ok y w'/\(y= .value v'\/(y= .skip/\v'=undef))/\v'=undef/\VR φ' (aa u) (dX tmps (.tmp d))/\φ.le φ'/\HR P W φ' (hp (set H (bits b) (some .dead))) w'/\φ'.length=nx+1/\fN φ φ' (hp H) (hp (set H (bits b) (some .dead))):=by
 subst hn;have hef:cI P H nx t (bq P tm (.tmp d)) (bq P tm x)= .val undef (set H (bits b) (some (.cells n (e8 u.cells.toList 0 tr) el))) nx:=by
  rw[ha,hu];show dV (H.get (bits b)) (λn tr e=>af (aN P t) (λs=>bif Nat.beq u.cells.toList.length s&&Nat.ble (0+s) n&&u.cells.toList.all aj then
   fk u.cells.toList 0 tr λtr=>dp (bits b) H (some (.cells n tr e)) λH=>fj.val undef H nx else .bad) .bad) .bad=_
  rw[hg];show af (aN P t) (λs=>bif Nat.beq u.cells.toList.length s&&Nat.ble (0+s) n&&u.cells.toList.all aj then
   fk u.cells.toList 0 tr λtr=>dp (bits b) H (some (.cells n tr el)) λH=>fj.val undef H nx else .bad) .bad=_
  rw[hs,ax,hl,hone,du,aL];have e1:Nat.beq n n=true:=Nat.beq_refl n;have e2:Nat.ble (0+n) n=true:=by rw[Nat.zero_add];exact Nat.ble_eq_true_of_le (Nat.le_refl n)
  rw[e1,e2];rfl
 obtain⟨φ1,v',w1,y,hr,hy,h1,h2,h3,h4,h5⟩:=zB hH b_ ho hE hef;obtain⟨en,hb,_,hp1⟩:=(hE (.tmp d) (by simp) _ ha).e_;have hb1:=h2 b en hb;have hg1:hp (set H (bits b) (some (.cells n (e8 u.cells.toList 0 tr) el))) b=some (.cells n (e8 u.cells.toList 0 tr) el):=by rw[bw,da]
 obtain⟨c,el',hrow,hrsz,hrn,oB⟩:=h3.cells hg1 hb1;have hk:=h3.kill hg1 hb1;rw[bw,oy,<- bw]at hk;have hgh:=hk.ghost (e:=⟨en.r,en.sz,en.es,some c⟩) rfl hrow (λk x ob hk' hgk hlk hr=>by
  rw[bw]at hgk
  by_cases hkb:k=b
  . subst hkb;rw[da]at hgk;cases hgk;cases hlk
  . rw[aK _ hkb]at hgk;exact hkb (h3.inj k b _ _ x en hk' hb1 (by rw[bw,aK _ hkb];exact hgk) hg1 hlk rfl hr))
 refine⟨_,v',w1,y,hr,hy,h1.al rfl,?_,cK.le_trans h2 (c_ φ1 _),hgh,by simp[h4],?_⟩
 . rw[hp1];refine VR.ep (e:=⟨en.r,en.sz,en.es,some c⟩) (c:=c) (fp φ1 _) rfl (by rw[hl];omega) (λj a b' hja hjb=> ?_);have hjl:j<u.cells.toList.length:=(List.getElem?_eq_some_iff.1 hja).1;obtain⟨a',g1,g2⟩:=oB j (by omega) a (by rw[dO,if_pos (by omega),Nat.sub_zero];exact hja);rw[Nat.zero_add,g1]at hjb;cases hjb;exact g2.mono (c_ φ1 _)
 . intro k hk';obtain⟨q1,q2⟩:=h5 k hk';refine⟨?_,?_⟩
   . rw[List.getElem?_append_left (List.getElem?_eq_some_iff.1 q1).1];exact q1
   . rw[bw,aK];intro q;subst q;rw[hb]at hk';cases hk'
theorem Iu {o:Oper}(h:Mu pl fn o=true):(∃e x,o.op= .box e x)\/∃t d x,o.op= .store t (.tmp d) x:=by
 unfold Mu at h;split at h
 . rename_i e x ho;exact .inl ⟨e,x,ho⟩
 . rename_i t d x ho;exact .inr ⟨t,d,x,ho⟩
 . cases h
theorem l8 (hO:lC P W O){K:Kt}(hK:C7 P W O K k):∀l:List Nat,C7 P W O (nb P pl ops K l) (.inRegion ops l::k)
 | [],c,tm,H,nx,r,h=>(hK c tm H nx r h).step1 λds tmps cs w=> .one (step_region_end (b:=dM (cB c ds) #[] []) (a:=⟨tmps,ds⟩))
 | i::rest,c,tm,H,nx,r,h=>λφ w lo tmps ds cs0 x htr=>by
   obtain⟨o,ho,h⟩:=bF (show(Ev.af ops[i]? (XZ P pl ops c tm H nx (nb P pl ops K rest)) .bad).run O=some r from h);unfold XZ at h;obtain⟨b,hb,hy,hn⟩:=uV h;have hw:Region.wanted o (yielded ops tmps)=b:=pK htr (λ_ _ _ _ h=>h) hb;have hE:pe P φ tm (dX tmps) o.op.operands.toList:=wb x.hH.gl htr Is;have next:∀{φ':cK} {H':T OB} {nx':Nat} {w':World} {v v':Value},
    Steps P (lone (dM (cB c ds) tmps (.inRegion ops (i::rest)::k)) (eK c.rc cs0) w) (lone (dM (cB c ds) (kb tmps o.dst v') (.inRegion ops rest::k)) (eK c.rc cs0) w')->
    φ.le φ'->HR P W φ' (hp H') w'->φ'.length=nx'->nx<=nx'->fN φ φ' (hp H) (hp H')->VR φ' v v'->((∀d,o.dst=some d->d<c.nt)/\(nb P pl ops K rest c (cG tm o.dst v) H' nx').run O=some r)->
    dD P W c.kd c.fn lo cs0 c.rc φ H r (dM (cB c ds) tmps (.inRegion ops (i::rest)::k)) w:=λhs hle hH' hl hn hkp hv hq=>by
    obtain⟨hd,hq⟩:=hq;have hd':∀d,o.dst=some d->d<tmps.size:=λd h=>by rw[x.lX];exact hd d h
    exact dD.steps hs hle (λk _ q=>hkp k q) (l8 hO hK rest _ _ _ _ _ hq _ _ _ _ ds cs0 (x.next hle hH' hl hn (eR ..)) ((htr.mono hle).put hd' hv λt h _=>h))
   cases b with
   | false=>exact next (.one (sJ ho hw)) φ.le_refl x.hH x.b_ (Nat.le_refl _) (fN.refl _ _) (.flat undef rfl) (dr (hn rfl))
   | true=>
     have h:=hy rfl;unfold Y3 at h;rcases eW h with⟨hrd,h⟩ | ⟨hrd,h⟩
     . obtain⟨v,hv,h⟩:=bF h;obtain⟨v',h1,h2⟩:=sw x.hH hE hv;exact next (.one (fq ho hw h2)) φ.le_refl x.hH x.b_ (Nat.le_refl _) (fN.refl _ _) h1 (oH h)
     . rcases eW h with⟨hct,h⟩ | ⟨hct,h⟩
       . cases he:ef P H nx tm o with
         | bad=>rw[he]at h;cases h
         | val v H' nx'=>rw[he]at h;cases h
         | call g args=>
           rw[he]at h;obtain⟨args',h1,hok,h2⟩:=C4 hE he;obtain⟨r1,h3,h4⟩:=oG (show(Q.ask (.call g args false none H nx) _).run O=some r from h);obtain⟨φ1,w1,hle,hH1,hl1,hkp,hn1,ho1⟩:=C8 hO h3 x.hH x.b_ h1 (C:=dM (cB c ds) tmps (.inRegion ops (i::rest)::k)) rfl (eK c.rc cs0);cases hr1:r1.o with
           | ret v=>
             rw[hr1]at ho1;simp only[hr1]at h4;obtain⟨v',hv',hs⟩:=ho1;rw[nH ho]at hs;exact next (.head (kU ho hw (h2 w)) hs) hle hH1 hl1 hn1 hkp hv' (oH h4)
           | gv v=>
             rw[hr1]at ho1;simp only[hr1]at h4;obtain⟨v',hv',hs⟩:=ho1;exact(rr hO c.df (.gv v) (some v') φ1 r1.H r1.nx ds w1 hH1 hl1 (by have:=x.nh;omega) (x.we.mono hle) (.gv hv') (htr.mono hle) h4).steps (.head (kU ho hw (h2 w)) hs) hle λk _ q=>hkp k q
         | UC g args=>
           rw[he]at h;obtain⟨d',h1,h2⟩:=Rh hE he;obtain⟨hd,hq⟩:=dr (show(kN c.nt tm o.dst undef (λtm=>nb P pl ops K rest ⟨c.fn,c.nt,c.kd,(g,args)::c.df,c.rp,c.rc⟩ tm H nx) .bad).run O=some r from h);have hd':∀d,o.dst=some d->d<tmps.size:=λd h=>by rw[x.lX];exact hd d h
           have hx:Fx P W lo cs0 ⟨c.fn,c.nt,c.kd,(g,args)::c.df,c.rp,c.rc⟩ φ H nx (kb tmps o.dst undef) (d'::ds) w:=⟨x.hH,x.b_,x.nh,(eR ..).trans x.lX,.cons h1 x.we,x.oB⟩;exact dD.step1 (.one (Ii ho hw (h2 w))) (l8 hO hK rest _ _ _ _ _ hq _ _ _ _ _ _ hx (htr.put hd' (.flat _ rfl) λt h _=>h))
         | gv v=>
           rw[he]at h;obtain⟨v',h1,h2⟩:=Ie hE he;exact(rr hO c.df (.gv v) (some v') φ H nx ds w x.hH x.b_ x.nh x.we (.gv h1) htr h).step1 (.one (zL ho hw (h2 w)))
         | UD=>
           rw[he]at h;have h:(UX c λc v=>kN c.nt tm o.dst v (λtm=>nb P pl ops K rest c tm H nx) .bad).run O=some r:=h;have h2:=Ri (ρ:=dX tmps) he w;have none':tryRecover (dM (cB c ds) tmps (.inRegion ops (i::rest)::k)) (eK c.rc cs0)=none->(kN c.nt tm o.dst .nilIface (λtm=>nb P pl ops K rest c tm H nx) .bad).run O=some r->
            dD P W c.kd c.fn lo cs0 c.rc φ H r (dM (cB c ds) tmps (.inRegion ops (i::rest)::k)) w:=λht hq=>
            next (.one (uq ho hw h2 ht)) φ.le_refl x.hH x.b_ (Nat.le_refl _) (fN.refl _ _) (.flat .nilIface rfl) (dr hq)
           obtain⟨cfn,UH,ckd,cdf,crp,crc⟩:=c;have oB:BB φ ckd crp crc cs0:=x.oB;cases ckd with
           | false=>exact none' (BC rfl) h
           | true=>
             have hk2:(dM (cB ⟨cfn,UH,true,cdf,crp,crc⟩ ds) tmps (.inRegion ops (i::rest)::k)).kind= .deferred:=rfl;have oB:=oB rfl;cases crp with
             | none=>exact none' (oB _ hk2) h
             | some v=>
               obtain⟨q,C,rs,v',older,hcs,hC,hv⟩:=oB;subst q hcs;obtain⟨hd,hq⟩:=dr (show(kN UH tm o.dst v (λtm=>nb P pl ops K rest ⟨cfn,UH,true,cdf,none,true⟩ tm H nx) .bad).run O=some r from h);have lX:tmps.size=UH:=x.lX;have hd':∀d,o.dst=some d->d<tmps.size:=λd h=>by rw[lX];exact hd d h
               have ht:tryRecover (dM (cB ⟨cfn,UH,true,cdf,some v,false⟩ ds) tmps (.inRegion ops (i::rest)::k)) (C::rs)=some (v',zT (C::rs)):=by
                rw[iL hk2];unfold zT;simp only[hC]
               have hx:Fx P W lo (C::rs) ⟨cfn,UH,true,cdf,none,true⟩ φ H nx (kb tmps o.dst v') ds w:=⟨x.hH,x.b_,x.nh,(eR ..).trans lX,x.we,λ_ F hF=>Im (cs:=C::rs) hF⟩;exact dD.steps (rc1:=true) (.one (ur ho hw h2 ht)) φ.le_refl (λ_ _ q=>⟨q,rfl⟩) (l8 hO hK rest _ _ _ _ _ hq _ _ _ _ _ _ hx (htr.put hd' hv λt h _=>h))
       . rcases eW h with⟨hfr,h⟩ | ⟨hfr,h⟩
         . rcases Iu hfr with⟨e,y,hop⟩ | ⟨t,d,y,hop⟩
           . unfold U0 at h;simp only[hop]at h;obtain⟨u,hu,h⟩:=bF (show(af (bq P tm y) (λv=>bo (Nat.succ nx) λn=>kN c.nt tm o.dst (aa v) (λtm=>nb P pl ops K rest c tm H n) .bad) .bad).run O=some r from h);rw[aP]at h;obtain⟨φ',v',w',hs,h1,h2,h3,h4,h5⟩:=It x.hH x.b_ hop (λv hv=>hE y (by rw[hop];simp[Op.operands]) v hv) hu;exact next (.one (fq ho hw hs)) h2 h3 h4 (Nat.le_succ _) h5 h1 (dr h)
           . unfold U0 at h;simp only[hop]at h;obtain⟨b,off,ha,h⟩:=Ip (show(CU P c.nt tm H nx t d o.dst (bq P tm (.tmp d)) (bq P tm y) λtm H nx=>nb P pl ops K rest c tm H nx).run O=some r from h);obtain⟨u,hu,h⟩:=bF h;obtain⟨n,tr,el,hg,h⟩:=BD h;obtain⟨s,hs,h⟩:=bF h;obtain⟨hc,hq⟩:=mK h;rw[aL,aP]at hq;simp only[Bool.and_eq_true]at hc;have hn:=beq_eq hc.2.1;have hl:=beq_eq hc.2.2.1;obtain⟨hd,hq1⟩:=dr hq;obtain⟨hd2,hq2⟩:=dr hq1;have hoff:=beq_eq hc.1;clear h hq hq1;subst hoff;obtain⟨φ',v',w',y',hr,hy',hv',h1,h2,h3,h4,h5⟩:=BH x.hH x.b_ hop (by rw[hop]at hE;exact hE) ha hu hg hs hn hl hc.2.2.2;have hst:step P (lone (dM (cB c ds) tmps (.inRegion ops (i::rest)::k)) (eK c.rc cs0) w)= .next (lone (dM (cB c ds) (kb tmps o.dst v') (.inRegion ops rest::k)) (eK c.rc cs0) w'):=by
              rcases hy' with rfl | ⟨rfl,rfl⟩
              . exact fq ho hw hr
              . exact sI ho hw hr
             have hdd:d<tmps.size:=by rw[x.lX];exact hd d rfl
             have hd2':∀e,o.dst=some e->e<tmps.size:=λe q=>by rw[x.lX];exact hd2 e q
             have htd:tmps[d]? = some (dX tmps (.tmp d)):=by
              rw[Array.getElem?_eq_getElem hdd];show _=some (tmps.getD d undef);simp[Array.getD,hdd]
             have ht1:=(htr.mono h2).refine htd h1;refine dD.steps (.one hst) h2 (λk _ q=>h5 k q) (l8 hO hK rest _ _ _ _ _ hq2 _ _ _ _ ds cs0 (x.next h2 h3 h4 (Nat.le_succ _) (eR ..)) ?_);exact ht1.put hd2' (by rw[hv'];exact .flat undef rfl) λt h _=>h
         . obtain⟨v,H',nx',he,h⟩:=rq h;obtain⟨φ',v',w',hs,h1,h2,h3,h4,h5⟩:=wg (fb:=cB c ds) (k:=k) (cs:=eK c.rc cs0) (rest:=rest) ho hw (sB x.hH x.b_ hE he);have hn:nx<=nx':=by have:=sO h2 h5;rw[x.b_,h4]at this;exact this
           exact next (.one hs) h2 h3 h4 hn h5 h1 (dr h)
theorem sR (hO:lC P W O){K:Kt}(hK:C7 P W O K k):∀(l:List (Nat×List Nat)) (tm:T Value) (H:T OB) (nx:Nat) (φ:cK) (tmps:Array Value) (w:World) (π done kH:List Nat) (κ:Nat->Nat),
 (uE P pl ops K l c tm H nx).run O=some r->Fx P W lo cs0 c φ H nx tmps ds w->fW P φ H tm tmps ops done kH l π κ lo nx->l4 P H tm ops done π->dD P W c.kd c.fn lo cs0 c.rc φ H r (dM (cB c ds) tmps (.inRegion ops π::k)) w
 | [],tm,H,nx,φ,tmps,w,π,done,kH,κ,h,x,hD,hL=>by
   obtain⟨φ',tmps',w',π',hs,hle,hH',hlen,hk,hD',_,hz,hn⟩:=sL (fn:=cB c ds) (k:=k) (cs:=eK c.rc cs0) π φ tmps w x.hH hD hL;have:=hD'.last hn;subst this;refine dD.steps (hs.trans (.one (step_region_end (b:=dM (cB c ds) #[] []) (a:=⟨tmps',ds⟩)))) hle (λk hk' q=>⟨hk k hk' q,rfl⟩) (hK c tm H nx r h _ _ _ _ ds cs0 (x.next hle hH' (hlen.trans x.b_) (Nat.le_refl _) hz) ?_);exact λt v hv=>(hD'.tr t v hv).imp (λ⟨p,hp,_⟩=>absurd hp List.not_mem_nil) id
 | (i,chk)::rest,tm,H,nx,φ,tmps,w,π,done,kH,κ,h,x,hD,hL=>by
   obtain⟨o,ho,hni,hrdy,hpr,hpe⟩:=jC hD.Gl;obtain⟨o',ho',h⟩:=bF (show(Ev.af ops[i]? (X2 P pl ops chk c tm H nx (uE P pl ops K rest)) .bad).run O=some r from h);rw[ho]at ho';cases ho';unfold X2 at h;obtain⟨b,hb,hy,hn0⟩:=uV h;have lX:=x.lX;have ahead:∀{φ':cK} {H':T OB} {nx':Nat} {κ':Nat->Nat} {u:Value},lT (kO ops) i o=true->(∀d,o.dst=some d->d<c.nt)->φ.le φ'->
    (∀k,k<nx->φ[k]? = some none->φ'[k]? = some none/\hp H' k=hp H k)->(∀p,p≠i->κ' p=κ p)->nx<=nx'->HR P W φ' (hp H') w->φ'.length=nx'->
    zO P φ' H' (cG tm o.dst u) ops κ' lo nx' i o->(rZ o.op=true->nx<=κ' i)->(∀k ob,hp H k=some ob->hp H' k=some ob)->
    (oi o.op=true->bX (cG tm o.dst u) ops o=some true->rd P H' (cG tm o.dst u) o=some u)->
    (uE P pl ops K rest c (cG tm o.dst u) H' nx').run O=some r->dD P W c.kd c.fn lo cs0 c.rc φ H r (dM (cB c ds) tmps (.inRegion ops π::k)) w:=by
    intro φ' H' nx' κ' u hc hd hle hk hκ hn hH' hl hprom hfresh hext hself hq;have hna:i∉lA ops:=Ij λhm=>by
     have hm':(kO ops).contains i=true:=by simpa using hm
     unfold lT at hc;rw[hm',Bool.not_true,Bool.and_false]at hc;cases hc
    refine dD.steps (.refl _ _) hle (λk hk' q=>hk k (by have:=x.nh;omega) q) (sR hO hK rest _ H' nx' φ' tmps w π (i::done) _ κ' hq (x.next hle hH' hl hn rfl)
     (hD.take ho hna hni hrdy (hpr hc) (λp hp=> ?_) (λhl=> ?_) hle hk hκ hn (λd h=>by rw[lX];exact hd d h) hprom hfresh) (hL.take hD.sa hD.ready ho hna hni hext hself))
    . split
      . exact List.mem_cons_of_mem _ hp
      . exact hp
    . rw[if_pos hl];simp
   have hself:∀{d:Tmp},o.dst=some d->d∉o.looksAt ops:=λhd=>Ik hD.sa hD.ac ho hd;have e1:∀u,bX (cG tm o.dst u) ops o=bX tm ops o:=λu=>l7 (i:=i) (p:=i) λd hd=>hself hd;have e2:∀u H,rd P H (cG tm o.dst u) o=rd P H tm o:=λu H=>pU λd hd=>hself hd;have e3:∀u d,o.dst=some d->(cG tm o.dst u).get (bits d)=some u:=λu d hd=>by rw[gq,if_pos hd]
   have turn:lT (kO ops) i o=false->∃φ1 tmps1 w1 l,Steps P (lone (dM (cB c ds) tmps (.inRegion ops π::k)) (eK c.rc cs0) w) (lone (dM (cB c ds) tmps1 (.inRegion ops (i::l)::k)) (eK c.rc cs0) w1)/\
    φ.le φ1/\(∀k,k<lo->φ[k]? = some none->φ1[k]? = some none/\hp H k=hp H k)/\Fx P W lo cs0 c φ1 H nx tmps1 ds w1/\fW P φ1 H tm tmps1 ops done kH ((i,chk)::rest) (i::l) κ lo nx/\
    Region.wanted o (yielded ops tmps1)=b/\pe P φ1 tm (dX tmps1) o.op.operands.toList:=by
    intro hc;obtain⟨φ1,tmps1,w1,π',hs,hle,hH1,hlen,hk,hD1,_,hz,hn⟩:=sL (fn:=cB c ds) (k:=k) (cs:=eK c.rc cs0) π φ tmps w x.hH hD hL;obtain⟨l,rfl⟩:=hD1.head ho hc hn;exact⟨φ1,tmps1,w1,l,hs,hle,λj hj q=>⟨hk j hj q,rfl⟩,x.next hle hH1 (hlen.trans x.b_) (Nat.le_refl _) hz,hD1,
     pK hD1.tr (λp hp d hd=>mJ hD1.Mf hD1.own ho (l6 hp hd)) hb,wb hH1.gl hD1.tr λt ht=>mJ hD1.Mf hD1.own ho (l5 ht)⟩
   have fin:∀{φ1 φ2:cK} {H':T OB} {nx':Nat} {tmps1:Array Value} {w1 w2:World} {l:List Nat} {v v':Value},lT (kO ops) i o=false->Fx P W lo cs0 c φ1 H nx tmps1 ds w1->fW P φ1 H tm tmps1 ops done kH ((i,chk)::rest) (i::l) κ lo nx->
    Steps P (lone (dM (cB c ds) tmps1 (.inRegion ops (i::l)::k)) (eK c.rc cs0) w1) (lone (dM (cB c ds) (kb tmps1 o.dst v') (.inRegion ops l::k)) (eK c.rc cs0) w2)->
    φ1.le φ2->HR P W φ2 (hp H') w2->φ2.length=nx'->nx<=nx'->fN φ1 φ2 (hp H) (hp H')->VR φ2 v v'->((∀d,o.dst=some d->d<c.nt)/\(r9 P H' (cG tm o.dst v) ops chk (uE P pl ops K rest c (cG tm o.dst v) H' nx')).run O=some r)->
    dD P W c.kd c.fn lo cs0 c.rc φ1 H r (dM (cB c ds) tmps1 (.inRegion ops (i::l)::k)) w1:=by
    intro φ1 φ2 H' nx' tmps1 w1 w2 l v v' hc x1 hD1 hs hle hH2 hl hn hkp hv hq;obtain⟨hd,hq⟩:=hq;unfold r9 at hq;rcases eW hq with⟨hchk,hq⟩ | ⟨_,hq⟩
    . obtain⟨h6,h7⟩:=hD1.finish (H':=H') ho hc hle (λj _ q=>hkp j q) hn hv (λd h=>by rw[x1.lX];exact hd d h) hchk;exact dD.steps hs hle (λk _ q=>hkp k q) (sR hO hK rest _ _ _ _ _ _ _ _ _ _ hq (x1.next hle hH2 hl hn (eR ..)) h6 h7)
    . exact(hJ hq).elim
   cases b with
   | true=>
     have h:=hy rfl;unfold Y4 at h;rcases eW h with⟨hrd,h⟩ | ⟨hrd,h⟩
     . obtain⟨v,hv,h⟩:=bF h;obtain⟨hd,hq⟩:=oH h;cases hf:lT (kO ops) i o with
       | false=>
         obtain rfl:chk=[]:=(hpe hf).1 hrd;obtain⟨φ1,tmps1,w1,l,hs,hle1,hk1,x1,hD1,hw1,hE1⟩:=turn hf;obtain⟨v',hvr,hrun⟩:=sw x1.hH hE1 hv;exact dD.steps hs hle1 hk1 (fin hf x1 hD1 (.one (fq ho hw1 hrun)) φ1.le_refl x1.hH x1.b_ (Nat.le_refl _) (fN.refl _ _) hvr ⟨hd,by unfold r9;exact hq⟩)
       | true=>
       exact ahead (u:=v) (κ':=κ) hf hd φ.le_refl (λk _ q=>⟨q,rfl⟩) (λ_ _=>rfl) (Nat.le_refl _) x.hH x.b_
        (.inr (.inl ⟨(e1 v).trans hb,hrd,v,e3 v,λ_=>(e2 v H).trans hv⟩)) (λhal=>by
         rw[C6 hal]at hrd;cases hrd) (λ_ _ h=>h) (λ_ _=>(e2 v H).trans hv) hq
     . rcases eW h with⟨hal,h⟩ | ⟨hal,h⟩
       . cases hf:lT (kO ops) i o with
         | false=>
           obtain⟨φ1,tmps1,w1,l,hs,hle1,hk1,x1,hD1,hw1,hE1⟩:=turn hf;refine dD.steps hs hle1 hk1 ?_;obtain⟨v,H',nx',he,h⟩:=rq h;obtain⟨φ2,v',w2,hs2,h1,h2,h3,h4,h5⟩:=wg (fb:=cB c ds) (k:=k) (cs:=eK c.rc cs0) (rest:=l) ho hw1 (sB x1.hH x1.b_ hE1 he);have hn:nx<=nx':=by have:=sO h2 h5;rw[x1.b_,h4]at this;exact this
           exact fin hf x1 hD1 (.one hs2) h2 h3 h4 hn h5 h1 (dr h)
         | true=>
         obtain⟨v,H',nx',he2,h⟩:=rq h;obtain⟨e,l,mk,hz,rfl,rfl,rfl⟩:=U_ hal he2;obtain⟨hd,hq⟩:=dr h;unfold r9 at hq;have hq:=(eW hq).elim (λq=>q.2) (λq=>(hJ q.2).elim);have hnone:hp H nx=none:=by
          cases hx:hp H nx with
          | none=>rfl
          | some ob=>have:=x.hH.qw nx ob hx;have:=x.b_;omega
         have b_:=x.b_;subst b_;refine ahead (u:=mk φ.length) (κ':=λp=>if p=i then φ.length else κ p) (φ':=φ++[none]) hf hd (c_ φ _) (λj hj q=>⟨?_,?_⟩) (λp hp=>if_neg hp) (Nat.le_succ _) ?_ (by simp)
          (.inr (.inr ⟨(e1 _).trans hb,hal,e,l,mk,uU (λy hy=>pQ tm o.dst _ y λd hd q=>by
           subst q;exact hself hd (l5 hy)) hz,?_,?_,?_,?_,λd hd=> ?_⟩)) (λ_=> ?_) (λj ob hj=> ?_) (λhl=> ?_) hq
         . rw[List.getElem?_append_left hj];exact q
         . rw[bw,aK _ (by omega)]
         . rw[bw];exact x.hH.U5 _
         . dsimp only;rw[if_pos rfl];exact fp φ _
         . dsimp only;rw[if_pos rfl,bw,da]
         . dsimp only;rw[if_pos rfl];exact x.nh
         . dsimp only;rw[if_pos rfl];omega
         . dsimp only;rw[if_pos rfl];exact e3 _ d hd
         . rw[if_pos rfl];exact Nat.le_refl _
         . rw[bw]
           by_cases hjn:j=φ.length
           . subst hjn;rw[hnone]at hj;cases hj
           . rw[aK _ hjn];exact hj
         . rw[MH hal]at hl;cases hl
       . have hc:lT (kO ops) i o=false:=by unfold lT;rw[hrd,hal];rfl
         obtain⟨φ1,tmps1,w1,l,hs,hle1,hk1,x1,hD1,hw1,hE1⟩:=turn hc;refine dD.steps hs hle1 hk1 ?_;rcases eW h with⟨hct,h⟩ | ⟨hct,h⟩
         . cases he:ef P H nx tm o with
           | bad=>rw[he]at h;cases h
           | val v H' nx'=>rw[he]at h;cases h
           | UC g args=>rw[he]at h;cases h
           | UD=>rw[he]at h;cases h
           | call g args=>
             rw[he]at h;obtain⟨args',h1,hok,h2⟩:=C4 hE1 he;obtain⟨r1,h3,h4⟩:=oG (show(Q.ask (.call g args false none H nx) _).run O=some r from h);obtain⟨φ2,w2,hle,hH2,hl2,hkp,hn1,ho1⟩:=C8 hO h3 x1.hH x1.b_ h1 (C:=dM (cB c ds) tmps1 (.inRegion ops (i::l)::k)) rfl (eK c.rc cs0);cases hr1:r1.o with
             | ret v=>
               rw[hr1]at ho1;simp only[hr1]at h4;obtain⟨v',hv',hs2⟩:=ho1;rw[nH ho]at hs2;exact fin hc x1 hD1 (.head (kU ho hw1 (h2 w1)) hs2) hle hH2 hl2 hn1 hkp hv' (oH h4)
             | gv v=>
               rw[hr1]at ho1;simp only[hr1]at h4;obtain⟨v',hv',hs2⟩:=ho1;rcases eW h4 with⟨hdf,h4⟩ | ⟨_,h4⟩
               . have hdf:=List.isEmpty_iff.1 hdf;obtain⟨fd,hfd,h4⟩:=bF (show(af P.funcs[c.fn]? (λ_=>Q.ret ⟨.gv v,c.rc,r1.H,r1.nx⟩) .bad).run O=some r from h4);have h4:=rm h4;subst h4;have we:=x1.we;rw[hdf]at we;cases we;exact⟨φ2,w2,_,.head (kU ho hw1 (h2 w1)) hs2,hle,hH2,hl2,λk _ q=>hkp k q,rfl,rfl,v',hv',rfl,rfl,fd,hfd⟩
               . exact(hJ h4).elim
           | gv v=>
             rw[he]at h;obtain⟨v',h1,h2⟩:=Ie hE1 he;rcases eW h with⟨hdf,h4⟩ | ⟨_,h4⟩
             . have hdf:=List.isEmpty_iff.1 hdf;obtain⟨fd,hfd,h4⟩:=bF (show(af P.funcs[c.fn]? (λ_=>Q.ret ⟨.gv v,c.rc,H,nx⟩) .bad).run O=some r from h4);have h4:=rm h4;subst h4;have we:=x1.we;rw[hdf]at we;cases we;exact⟨φ1,w1,_,.one (zL ho hw1 (h2 w1)),φ1.le_refl,x1.hH,x1.b_,λk _ q=>⟨q,rfl⟩,rfl,rfl,v',h1,rfl,rfl,fd,hfd⟩
             . exact(hJ h4).elim
         . rcases eW h with⟨hfr,h⟩ | ⟨hfr,h⟩
           . simp only[Bool.and_eq_true]at hfr;obtain⟨e,y,hop⟩:∃e y,o.op= .box e y:=by
              have hb:=hfr.2;unfold Pe at hb;split at hb
              . rename_i e y hop;exact⟨e,y,hop⟩
              . cases hb
             unfold U0 at h;simp only[hop]at h;obtain⟨u,hu,h⟩:=bF (show(af (bq P tm y) (λv=>bo (Nat.succ nx) λn=>kN c.nt tm o.dst (aa v) (λtm=>r9 P H tm ops chk (uE P pl ops K rest c tm H n)) .bad) .bad).run O=some r from h);rw[aP]at h;obtain⟨φ2,v',w2,hs2,h1,h2,h3,h4,h5⟩:=It x1.hH x1.b_ hop (λv hv=>hE1 y (by rw[hop];simp[Op.operands]) v hv) hu;exact fin hc x1 hD1 (.one (fq ho hw1 hs2)) h2 h3 h4 (Nat.le_succ _) h5 h1 (dr h)
           . obtain⟨v,H',nx',he,h⟩:=rq h;obtain⟨φ2,v',w2,hs2,h1,h2,h3,h4,h5⟩:=wg (fb:=cB c ds) (k:=k) (cs:=eK c.rc cs0) (rest:=l) ho hw1 (sB x1.hH x1.b_ hE1 he);have hn:nx<=nx':=by have:=sO h2 h5;rw[x1.b_,h4]at this;exact this
             exact fin hc x1 hD1 (.one hs2) h2 h3 h4 hn h5 h1 (dr h)
   | false=>
     obtain⟨hd,hq⟩:=dr (hn0 rfl);cases hc:lT (kO ops) i o with
     | true=>
       unfold r9 at hq;rcases eW hq with⟨hchk,hq⟩ | ⟨_,hq⟩
       . refine ahead (u:=undef) (κ':=λp=>if p=i then nx else κ p) hc hd φ.le_refl (λk _ q=>⟨q,rfl⟩) (λp hp=>if_neg hp) (Nat.le_refl _) x.hH x.b_
          (.inl ⟨(e1 _).trans hb,e3 _⟩) (λ_=> ?_) (λ_ _ h=>h) (λ_ hw=> ?_) hq
         . rw[if_pos rfl];exact Nat.le_refl _
         . rw[e1,hb]at hw;cases hw
       . exact(hJ hq).elim
     | false=>
       obtain⟨φ1,tmps1,w1,l,hs,hle1,hk1,x1,hD1,hw1,_⟩:=turn hc;exact dD.steps hs hle1 hk1 (fin hc x1 hD1 (.one (sJ ho hw1)) φ1.le_refl x1.hH x1.b_ (Nat.le_refl _) (fN.refl _ _) (.flat undef rfl) (dr (hn0 rfl)))
end
end
end Go.Ev
