/- Texts of this claim, side by side. -/
import Derived.Test.YthjhonhhbddhkaaDoorG6
namespace Go.Proofs.YthjhonhhbddhkaaDoor
open Go.Ev Go.RowKit
noncomputable section
set_option maxRecDepth 100000
set_option linter.unusedVariables false
set_option linter.unusedSimpArgs false
set_option maxHeartbeats 8000000
section
variable {nx0 nx nx' bp k:Nat}{H0 H H':T OB}{F A B G G':List Bx}{s:Bx}{R:Go.Ev.Out->T OB->Nat->Prop}{b:Nat}{l:List Value}{e t:TypeId}{L:List Tok}
abbrev ku (L:List Tok):Value:=aM 4 (L.map Tok.v)
abbrev cQ (bp:Nat)(L:List Tok)(k:Nat):Bx:=(bp,[ku L,i64 (k:Int)],79)
theorem Sq.mq {f:FuncId}{args:List Value}{u:Value}{kt p:Value->T OB->Nat->Q}{F':List Bx}(hx:X0 f args=none)(h:aF P pl X0 (aI P pl (.call f args false none H nx)) nx0 H0 (λo H nx=>o= .ret u/\Hp nx0 H0 F' H nx))
 (hk:∀H' nx',Hp nx0 H0 F' H' nx'->aF P pl X0 (kt u H' nx') nx0 H0 R):aF P pl X0 (bQ (.call f args false none H nx) kt p) nx0 H0 R:=
 Wq.iF hx h (λv H' nx' _ q=>by
  obtain⟨q1,q2⟩:=q;cases q1;exact hk H' nx' q2) (λv H' nx' _ q=>by cases q.1)
theorem lM {u:Value}{F':List Bx}(h:Hp nx0 H0 F' H nx):aF P pl X0 (.ret ⟨.ret u,false,H,nx⟩) nx0 H0 (λo H nx=>o= .ret u/\Hp nx0 H0 F' H nx):=Wq.nN h.ag ⟨rfl,h⟩
theorem vp {u v:Value}{F':List Bx}(e:u=v)(h:Hp nx0 H0 F' H nx):aF P pl X0 (.ret ⟨.ret u,false,H,nx⟩) nx0 H0 (λo H nx=>o= .ret v/\Hp nx0 H0 F' H nx):=by subst e;exact lM h
theorem gQ {L:List Tok}{k:Nat}(h:(tk L k).k≠0):k<L.length:=by
 unfold tk at h;cases hk:L[k]? with
 | none=>rw[hk]at h;exact absurd rfl h
 | some t=>exact(List.getElem?_eq_some_iff.1 hk).1
theorem mr {L:List Tok}{k:Nat}{w:List UInt8}(h:bP L k w=true):k<L.length:=by
 refine gQ λq=> ?_;unfold bP ko at h;rw[q]at h;simp at h
theorem pk (h:Hp nx0 H0 (cQ bp L k::F) H nx):ai P H 3 (some (.pointer (some ⟨bp,1,none⟩)))=some (i64 (k:Int)):=ah (h.at_ 0 rfl) oR rfl
theorem plk (h:Hp nx0 H0 (cQ bp L k::F) H nx):ai P H 35 (some (.pointer (some ⟨bp,0,none⟩)))=some (ku L):=ah (h.at_ 0 rfl) wI rfl
theorem KB {c0 c1 c2 c3:Value}(h:cA H b [c0,c1,c2,c3] 70):ai P H 70 (some (.pointer (some ⟨b,0,none⟩)))=some (.agg ⟨[c0,c1,c2,c3]⟩):=by
 rw[bU h nO eA (by simp)];rfl
theorem Wa (h:Hp nx0 H0 (cQ bp L k::F) H nx):aF P pl X0 (aI P pl (.call 45 [ptr bp] false none H nx)) nx0 H0 (λo H nx=>o= .ret (tk L k).v/\Hp nx0 H0 (cQ bp L k::F) H nx):=by
 rw[ZN];refine Hq.alloc dS h λx0 H1 av h1=> ?_;simp only[ab,pk h1,plk h1,List.length_map];refine Wq.ite (λhlt=> ?_) (λhge=> ?_)
 . have hlt':k<L.length:=by omega
   have hg:L[k]? = some L[k]:=List.getElem?_eq_getElem hlt';have hx:(L.map Tok.v)[k]? = some L[k].v:=by simp[hg]
   simp only[ab,IF hx];refine Hq.store [cQ bp L k] h1 eA (by simp) rfl rfl λH2 h2=> ?_;simp only[ab,KB (h2.at_ 1 rfl)];refine vp ?_ h2.oU;show _=(tk L k).v;unfold tk;rw[hg];rfl
 . refine Hq.store [cQ bp L k] h1 eA (by simp) rfl rfl λH2 h2=> ?_;simp only[ab,KB (h2.at_ 1 rfl)];refine vp ?_ h2.oU;show _=(tk L k).v;unfold tk;rw[List.getElem?_eq_none (by omega)];rfl
theorem Sq.now {kt p:Value->T OB->Nat->Q}(h:Hp nx0 H0 (cQ bp L k::F) H nx)(hk:∀H' nx',Hp nx0 H0 (cQ bp L k::F) H' nx'->aF P pl X0 (kt (tk L k).v H' nx') nx0 H0 R):aF P pl X0 (bQ (.call 45 [ptr bp] false none H nx) kt p) nx0 H0 R:=Sq.mq rfl (Wa h) hk
theorem Sq.Ng {kt:T OB->Nat->Q}(h:Hp nx0 H0 F H nx)(hk:∀H' nx',Hp nx0 H0 F H' nx'->aF P pl X0 (kt H' nx') nx0 H0 R):aF P pl X0 (aR (cD P H nx 70) λp H nx=>cV P H nx 70 (some p) (tk L k).v kt) nx0 H0 R:=Hq.var dS eA rfl rfl rfl h hk
theorem Wb {a b:Bool}{x y:Q}(h:(a||b)=true->aF P pl X0 x nx0 H0 R)(h':(a||b)=false->aF P pl X0 y nx0 H0 R):aF P pl X0 (Ev.bK a x (Ev.bK b x y)) nx0 H0 R:=by
 cases a with
 | true=>exact h rfl
 | false=>
   cases b with
   | true=>exact h rfl
   | false=>exact h' rfl
theorem XN (a b:List UInt8):decide ((⟨⟨a⟩⟩:ByteArray)=⟨⟨b⟩⟩)=decide (a=b):=by rw[decide_eq_decide];simp
theorem Ty (w:List UInt8)(h:Hp nx0 H0 (cQ bp L k::F) H nx):aF P pl X0 (aI P pl (.call 65 [ptr bp,au w] false none H nx)) nx0 H0 (λo H nx=>o= .ret (.bool (bP L k w))/\Hp nx0 H0 (cQ bp L k::F) H nx):=by
 rw[Z6];refine Sq.now h λH1 av h1=> ?_;refine Sq.Ng h1 λH2 nx2 h2=> ?_;simp only[ab];refine Wb (λhw=> ?_) (λhw=> ?_)
 . refine vp ?_ h2;unfold bP ko;rw[hw,Bool.true_and,XN]
 . refine vp ?_ h2;unfold bP ko;rw[hw,Bool.false_and]
theorem Sq.is {w:List UInt8}{kt p:Value->T OB->Nat->Q}(h:Hp nx0 H0 (cQ bp L k::F) H nx)(hk:∀H' nx',Hp nx0 H0 (cQ bp L k::F) H' nx'->aF P pl X0 (kt (.bool (bP L k w)) H' nx') nx0 H0 R):aF P pl X0 (bQ (.call 65 [ptr bp,au w] false none H nx) kt p) nx0 H0 R:=Sq.mq rfl (Ty w h) hk
theorem Wc:aN P 3=some 1:=by kernel_rfl
theorem eh (h:Hp nx0 H0 (cQ bp L k::F) H nx){kt:Value->T OB->Nat->Q}(hk:∀H',Hp nx0 H0 (cQ bp L (k+1)::F) H' nx->aF P pl X0 (kt undef H' nx) nx0 H0 R):aF P pl X0 (aR (cI P H nx 3 (some (.pointer (some ⟨bp,1,none⟩))) (some (i64 ((k:Int)+1)))) kt) nx0 H0 R:=
 Hq.put [] h Wc rfl rfl (show 1<2 by omega) rfl λH' h'=>hk H' h'
theorem fP (hL:L.length<=100000)(hlt:k<L.length):IntKind.i64.wrap ((k:Int)+1)=(k:Int)+1:=by rw[ao (by omega)];rfl
theorem Qp (w:List UInt8)(hL:L.length<=100000)(h:Hp nx0 H0 (cQ bp L k::F) H nx):aF P pl X0 (aI P pl (.call 48 [ptr bp,au w] false none H nx)) nx0 H0 (λo H nx=>o= .ret (.bool (bP L k w))/\Hp nx0 H0 (cQ bp L (if bP L k w=true then k+1 else k)::F) H nx):=by
 rw[ZQ];refine Sq.is h λH1 av h1=> ?_;cases hi:bP L k w with
 | false=>
   simp only[ab];exact lM h1
 | true=>
   simp only[ab,pk h1,fP hL (mr hi)];exact eh h1 λH2 h2=>lM h2
theorem Sq.take {w:List UInt8}{kt p:Value->T OB->Nat->Q}(hL:L.length<=100000)(h:Hp nx0 H0 (cQ bp L k::F) H nx)(ht:bP L k w=true->∀H' nx',Hp nx0 H0 (cQ bp L (k+1)::F) H' nx'->aF P pl X0 (kt (.bool true) H' nx') nx0 H0 R)
 (hf:bP L k w=false->∀H' nx',Hp nx0 H0 (cQ bp L k::F) H' nx'->aF P pl X0 (kt (.bool false) H' nx') nx0 H0 R):aF P pl X0 (bQ (.call 48 [ptr bp,au w] false none H nx) kt p) nx0 H0 R:=
 Sq.mq rfl (Qp w hL h) λH' nx' h'=>by
  cases hi:bP L k w with
  | true=>rw[hi]at h';exact ht hi H' nx' h'
  | false=>rw[hi]at h';exact hf hi H' nx' h'
theorem Sq.skip {w:List UInt8}{kt p:Value->T OB->Nat->Q}(hL:L.length<=100000)(h:Hp nx0 H0 (cQ bp L k::F) H nx)(hk:∀b H' nx',Hp nx0 H0 (cQ bp L (skip L w k)::F) H' nx'->aF P pl X0 (kt (.bool b) H' nx') nx0 H0 R):aF P pl X0 (bQ (.call 48 [ptr bp,au w] false none H nx) kt p) nx0 H0 R:=
 Sq.mq rfl (Qp w hL h) λH' nx' h'=>hk _ H' nx' h'
abbrev lg (a:Int):Value:= .iface 75 (.agg ⟨[i64 a]⟩)
def End {α:Type}(nx0:Nat)(H0:T OB)(bp:Nat)(L:List Tok)(F:List Bx)(vf:α->Value):kn α->Go.Ev.Out->T OB->Nat->Prop
 | .ok a k=>λo H nx=>o= .ret (vf a)/\Hp nx0 H0 (cQ bp L k::F) H nx
 | .bad a=>λo H nx=>o= .gv (lg a)
def bn {α:Type}(f:FuncId)(L:List Tok)(vf:α->Value)(r:Nat->PR α):Prop:=∀nx0 nx H0 H bp F k o,r k=some o->Hp nx0 H0 (cQ bp L k::F) H nx->aF P pl X0 (aI P pl (.call f [ptr bp] false none H nx)) nx0 H0 (End nx0 H0 bp L F vf o)
theorem End.ret {α:Type}{vf:α->Value}{a:α}{u:Value}{o:kn α}(ho:yes a k=some o)(e:u=vf a)(h:Hp nx0 H0 (cQ bp L k::F) H nx):aF P pl X0 (.ret ⟨.ret u,false,H,nx⟩) nx0 H0 (End nx0 H0 bp L F vf o):=by
 cases ho;exact Wq.nN h.ag ⟨by rw[e],h⟩
theorem Sq.gg {α:Type}{vf:α->Value}{a:Int}(hA:Ag nx0 H0 nx H):aF P pl X0 (gg (lg a) H nx) nx0 H0 (End nx0 H0 bp L F vf (.bad a)):=Wq.nN hA rfl
theorem Wd (x:Value):kL P 75 (some (.agg ⟨[x]⟩))=some (.iface 75 (.agg ⟨[x]⟩)):=by kernel_rfl
theorem We (x:Int):a9 P 75 (some [(0,i64 x)])=some (.agg ⟨[i64 x]⟩):=aX (z:=[.int .i64 0]) (by kernel_rfl) (by kernel_rfl)
theorem B_ (h:Hp nx0 H0 (cQ bp L k::F) H nx):aF P pl X0 (aI P pl (.call 82 [ptr bp] false none H nx)) nx0 H0 (λo _ _=>o= .gv (lg (tk L k).at_)):=by
 rw[q82];refine Sq.now h λH1 av h1=> ?_;simp only[ab,We,Wd];exact Wq.nN (R:=λo _ _=>o= .gv (lg (tk L k).at_)) h1.ag rfl
theorem Sq.fail {α β:Type}{vf:α->Value}{o:kn α}{kt:Value->T OB->Nat->Q}(ho:jL L k=some o)(h:Hp nx0 H0 (cQ bp L k::G) H nx):aF P pl X0 (bQ (.call 82 [ptr bp] false none H nx) kt Ev.gg) nx0 H0 (End nx0 H0 bp L F vf o):=by
 cases ho;exact Wq.iF rfl (B_ h) (λu H' nx' _ q=>by cases q) λu H' nx' hA q=>by cases q;exact Sq.gg hA
theorem Sq.call {α β:Type}{f:FuncId}{vf:α->Value}{vg:β->Value}{r:Nat->PR α}{g:α->Nat->PR β}{o:kn β}{kt:Value->T OB->Nat->Q}(hs:bn f L vf r)(hx:X0 f [ptr bp]=none)(h:Hp nx0 H0 (cQ bp L k::G) H nx)(ho:bd (r k) g=some o)
 (hk:∀a k' H' nx',r k=some (.ok a k')->g a k'=some o->Hp nx0 H0 (cQ bp L k'::G) H' nx'->aF P pl X0 (kt (vf a) H' nx') nx0 H0 (End nx0 H0 bp L F vg o)):aF P pl X0 (bQ (.call f [ptr bp] false none H nx) kt Ev.gg) nx0 H0 (End nx0 H0 bp L F vg o):=by
 cases hr:r k with
 | none=>rw[hr]at ho;cases ho
 | some q=>
   refine Wq.iF hx (hs nx0 nx H0 H bp G k q hr h) (λu H' nx' _ he=> ?_) (λu H' nx' hA he=> ?_)
   . cases q with
     | bad a=>cases he
     | ok a k'=>
       rw[hr,E7]at ho;cases he.1;exact hk a k' H' nx' hr ho he.2
   . cases q with
     | ok a k'=>cases he.1
     | bad a=>
       rw[hr,yv]at ho;cases ho;cases he;exact Sq.gg hA
theorem Sq.lO {β:Type}{w:List UInt8}{vg:β->Value}{g:Nat->PR β}{o:kn β}{kt:Value->T OB->Nat->Q}(hL:L.length<=100000)(h:Hp nx0 H0 (cQ bp L k::G) H nx)(ho:aQ L w k g=some o)
 (hk:∀H' nx',bP L k w=true->g (k+1)=some o->Hp nx0 H0 (cQ bp L (k+1)::G) H' nx'->aF P pl X0 (kt (.tuple ⟨[]⟩) H' nx') nx0 H0 (End nx0 H0 bp L F vg o)):aF P pl X0 (bQ (.call 62 [ptr bp,au w] false none H nx) kt Ev.gg) nx0 H0 (End nx0 H0 bp L F vg o):=by
 unfold aQ at ho;cases hi:bP L k w with
 | true=>
   rw[hi,if_pos rfl]at ho;refine Sq.mq rfl ?_ λH' nx' h'=>hk H' nx' hi ho h';rw[Y9];refine Sq.take hL h (λ_ H1 av h1=> ?_) (λq=>by rw[q]at hi;cases hi);simp only[ab];exact lM h1
 | false=>
   rw[hi,if_neg (by simp)]at ho;cases ho;refine Wq.iF (R1:=λo _ _=>o= .gv (lg (tk L k).at_)) rfl ?_ (λu H' nx' _ q=>by cases q) λu H' nx' hA q=>by cases q;exact Sq.gg hA
   rw[Y9];refine Sq.take hL h (λq=>by rw[q]at hi;cases hi) (λ_ H1 av h1=> ?_);simp only[ab];exact Wq.iF rfl (B_ h1) (λu H' nx' _ q=>by cases q) λu H' nx' hA q=>by cases q;exact Wq.nN hA rfl
theorem Tz (c:Int)(hL:L.length<=100000)(hc:c≠0)(h:Hp nx0 H0 (cQ bp L k::F) H nx):aF P pl X0 (aI P pl (.call 78 [ptr bp,i64 c] false none H nx)) nx0 H0 (End nx0 H0 bp L F Tok.v (if(tk L k).k=c then .ok (tk L k) (k+1)else .bad (tk L k).at_)):=by
 rw[q78];refine Hq.alloc dS h λx0 H1 av h1=> ?_;refine Sq.now h1 λH2 nx2 h2=> ?_;refine Sq.Ng h2 λH3 nx3 h3=> ?_;simp only[ab];refine Wq.bK (λq=> ?_) (λq=> ?_)
 . have hne:¬(tk L k).k=c:=by simpa using q
   rw[if_neg hne];exact Wq.iF rfl (B_ h3) (λu H' nx' _ q=>by cases q) λu H' nx' hA q=>by cases q;exact Sq.gg hA
 . have he:(tk L k).k=c:=by simpa using q
   rw[if_pos he];have hlt:k<L.length:=gQ (by rw[he];exact hc);refine Wq.jmp (SH ..) (λ_=>rfl) ?_;simp only[ab,pk h3,fP hL hlt];refine eh h3 λH4 h4=> ?_;refine Hq.store [cQ bp L (k+1)] h4 eA (by simp) rfl rfl λH5 h5=> ?_;simp only[ab,KB (h5.at_ 1 rfl)];exact Wq.nN h5.ag ⟨rfl,h5.oU⟩
theorem Sq.word {β:Type}{c:Int}{vg:β->Value}{g:Tok->Nat->PR β}{o:kn β}{kt:Value->T OB->Nat->Q}(hc:c≠0)(hL:L.length<=100000)(h:Hp nx0 H0 (cQ bp L k::G) H nx)(ho:bY L c k g=some o)
 (hk:∀H' nx',(tk L k).k=c->g (tk L k) (k+1)=some o->Hp nx0 H0 (cQ bp L (k+1)::G) H' nx'->aF P pl X0 (kt (tk L k).v H' nx') nx0 H0 (End nx0 H0 bp L F vg o)):aF P pl X0 (bQ (.call 78 [ptr bp,i64 c] false none H nx) kt Ev.gg) nx0 H0 (End nx0 H0 bp L F vg o):=by
 unfold bY at ho;have h1:=Tz c hL hc h
 by_cases hi:(tk L k).k=c
 . rw[if_pos hi]at ho h1;refine Wq.iF rfl h1 (λu H' nx' _ q=> ?_) (λu H' nx' hA q=>by cases q.1);cases q.1;exact hk H' nx' hi ho q.2
 . rw[if_neg hi]at ho h1;cases ho;exact Wq.iF rfl h1 (λu H' nx' _ q=>by cases q) λu H' nx' hA q=>by cases q;exact Sq.gg hA
theorem TA (h:Hp nx0 H0 (cQ bp L k::F) H nx):aF P pl X0 (aI P pl (.call 84 [ptr bp] false none H nx)) nx0 H0 (λo H nx=>o= .ret (au (if ko L k=true then(tk L k).s else[]))/\Hp nx0 H0 (cQ bp L k::F) H nx):=by
 rw[q84];refine Sq.now h λH1 av h1=> ?_;refine Sq.Ng h1 λH2 nx2 h2=> ?_;have J:∀b,ko L k=b->aF P pl X0 (.jump (EO (aa (tk L k).v) b H2 nx2)) nx0 H0 (λo H nx=>o= .ret (au (if ko L k=true then(tk L k).s else[]))/\Hp nx0 H0 (cQ bp L k::F) H nx):=by
  intro b hb;refine Wq.jmp (VK ..) (λ_=>rfl) ?_;cases b with
  | true=>simp only[ab];exact vp (by rw[hb,if_pos rfl]) h2
  | false=>simp only[ab];exact vp (by rw[hb,if_neg (by simp)]) h2
 simp only[ab];refine Wq.ite (λq=>J true (by unfold ko;simp[q])) (λq=>J _ (by unfold ko;simp[q]))
theorem Sq.op {kt p:Value->T OB->Nat->Q}(h:Hp nx0 H0 (cQ bp L k::F) H nx)(hk:∀H' nx',Hp nx0 H0 (cQ bp L k::F) H' nx'->aF P pl X0 (kt (au (if ko L k=true then(tk L k).s else[])) H' nx') nx0 H0 R):aF P pl X0 (bQ (.call 84 [ptr bp] false none H nx) kt p) nx0 H0 R:=Sq.mq rfl (TA h) hk
theorem TB (h:Hp nx0 H0 (cQ bp L k::F) H nx):aF P pl X0 (aI P pl (.call 94 [ptr bp] false none H nx)) nx0 H0 (λo H nx=>o= .ret (.bool (js L k))/\Hp nx0 H0 (cQ bp L k::F) H nx):=by
 rw[q94];refine Sq.now h λH1 av h1=> ?_;have J:∀b,mY L k=b->aF P pl X0 (.jump (qd (ptr bp) b H1 av)) nx0 H0 (λo H nx=>o= .ret (.bool (js L k))/\Hp nx0 H0 (cQ bp L k::F) H nx):=by
  intro b hb;refine Wq.jmp (SV ..) (λ_=>rfl) ?_;unfold js;rw[hb];cases b with
  | true=>simp only[ab];exact lM h1
  | false=>
    simp only[ab];refine Sq.is h1 λH2 nx2 h2=> ?_;cases bP L k [40]with
    | true=>simp only[ab];exact lM h2
    | false=>
      simp only[ab];refine Sq.is h2 λH3 nx3 h3=> ?_;simp only[ab];exact lM h3
 have e:mY L k=(decide ((tk L k).k=1)||(decide ((tk L k).k=2)||(decide ((tk L k).k=3)||decide ((tk L k).k=4)))):=rfl
 revert e J
 simp only[ab];generalize decide ((tk L k).k=1)=c1;generalize decide ((tk L k).k=2)=c2;generalize decide ((tk L k).k=3)=c3;generalize decide ((tk L k).k=4)=c4;intro J e;cases c1 with
 | true=>exact J true e
 | false=>
   cases c2 with
   | true=>exact J true e
   | false=>
     cases c3 with
     | true=>exact J true e
     | false=>exact J c4 e
theorem Sq.XO {kt p:Value->T OB->Nat->Q}(h:Hp nx0 H0 (cQ bp L k::F) H nx)(hk:∀H' nx',Hp nx0 H0 (cQ bp L k::F) H' nx'->aF P pl X0 (kt (.bool (js L k)) H' nx') nx0 H0 R):aF P pl X0 (bQ (.call 94 [ptr bp] false none H nx) kt p) nx0 H0 R:=Sq.mq rfl (TB h) hk
theorem TC (h:Hp nx0 H0 (cQ bp L k::F) H nx):aF P pl X0 (aI P pl (.call 91 [ptr bp] false none H nx)) nx0 H0 (λo H nx=>o= .ret (.bool (jZ L k))/\Hp nx0 H0 (cQ bp L k::F) H nx):=by
 rw[q91];refine Sq.now h λH1 av h1=> ?_;have J:∀b,mY L k=b->aF P pl X0 (.jump (qb (ptr bp) b H1 av)) nx0 H0 (λo H nx=>o= .ret (.bool (jZ L k))/\Hp nx0 H0 (cQ bp L k::F) H nx):=by
  intro b hb;refine Wq.jmp (SP ..) (λ_=>rfl) ?_;unfold jZ;rw[hb];cases b with
  | true=>simp only[ab];exact lM h1
  | false=>
    simp only[ab];refine Sq.is h1 λH2 nx2 h2=> ?_;cases bP L k [40]with
    | true=>simp only[ab];exact lM h2
    | false=>
      simp only[ab];refine Sq.is h2 λH3 nx3 h3=> ?_;cases bP L k [95]with
      | true=>simp only[ab];exact lM h3
      | false=>
        simp only[ab];refine Sq.is h3 λH4 nx4 h4=> ?_;simp only[ab];exact lM h4
 have e:mY L k=(decide ((tk L k).k=1)||(decide ((tk L k).k=2)||(decide ((tk L k).k=3)||decide ((tk L k).k=4)))):=rfl
 revert e J
 simp only[ab];generalize decide ((tk L k).k=1)=c1;generalize decide ((tk L k).k=2)=c2;generalize decide ((tk L k).k=3)=c3;generalize decide ((tk L k).k=4)=c4;intro J e;cases c1 with
 | true=>exact J true e
 | false=>
   cases c2 with
   | true=>exact J true e
   | false=>
     cases c3 with
     | true=>exact J true e
     | false=>exact J c4 e
theorem Sq.Wf {kt p:Value->T OB->Nat->Q}(h:Hp nx0 H0 (cQ bp L k::F) H nx)(hk:∀H' nx',Hp nx0 H0 (cQ bp L k::F) H' nx'->aF P pl X0 (kt (.bool (jZ L k)) H' nx') nx0 H0 R):aF P pl X0 (bQ (.call 91 [ptr bp] false none H nx) kt p) nx0 H0 R:=Sq.mq rfl (TC h) hk
theorem yx {L:List Tok}{k:Nat}(h:eZ L k=true):k<L.length:=by
 unfold eZ at h;rw[Bool.or_eq_true]at h
 rcases h with h | h
 . exact gQ (by have:(tk L k).k=3:=by simpa using h
                omega)
 . exact mr h
theorem TD (hL:L.length<=100000)(h:Hp nx0 H0 (cQ bp L k::F) H nx):aF P pl X0 (aI P pl (.call 95 [ptr bp] false none H nx)) nx0 H0 (λo H nx=>o= .ret (if eZ L k=true then .tuple ⟨[au (tk L k).s,.bool true]⟩else .tuple ⟨[au [],.bool false]⟩)/\Hp nx0 H0 (cQ bp L (if eZ L k=true then k+1 else k)::F) H nx):=by
 rw[q95];refine Sq.now h λH1 av h1=> ?_;refine Sq.Ng h1 λH2 nx2 h2=> ?_;have J:∀b H3 nx3,eZ L k=b->Hp nx0 H0 (cQ bp L k::F) H3 nx3->aF P pl X0 (.jump (ES (ptr bp) (aa (tk L k).v) b H3 nx3)) nx0 H0 (λo H nx=>o= .ret (if eZ L k=true then .tuple ⟨[au (tk L k).s,.bool true]⟩else .tuple ⟨[au [],.bool false]⟩)/\Hp nx0 H0 (cQ bp L (if eZ L k=true then k+1 else k)::F) H nx):=by
  intro b H3 nx3 hb h3;refine Wq.jmp (VN ..) (λ_=>rfl) ?_;cases b with
  | true=>
    simp only[ab,pk h3,fP hL (yx hb)];refine eh h3 λH4 h4=> ?_;rw[hb,if_pos rfl,if_pos rfl];exact lM h4
  | false=>
    simp only[ab];rw[hb,if_neg (by simp),if_neg (by simp)];exact lM h3
 simp only[ab];refine Wq.ite (λq=>J true H2 nx2 (by unfold eZ;simp[q]) h2) (λq=> ?_);refine Sq.is h2 λH3 nx3 h3=> ?_;simp only[ab];exact J _ H3 nx3 (by unfold eZ;simp[q]) h3
theorem Sq.Yk {kt p:Value->T OB->Nat->Q}(hL:L.length<=100000)(h:Hp nx0 H0 (cQ bp L k::F) H nx)(ht:eZ L k=true->∀H' nx',Hp nx0 H0 (cQ bp L (k+1)::F) H' nx'->aF P pl X0 (kt (.tuple ⟨[au (tk L k).s,.bool true]⟩) H' nx') nx0 H0 R)
 (hf:eZ L k=false->∀H' nx',Hp nx0 H0 (cQ bp L k::F) H' nx'->aF P pl X0 (kt (.tuple ⟨[au [],.bool false]⟩) H' nx') nx0 H0 R):aF P pl X0 (bQ (.call 95 [ptr bp] false none H nx) kt p) nx0 H0 R:=
 Sq.mq rfl (TD hL h) λH' nx' h'=>by
  cases hi:eZ L k with
  | true=>rw[hi,if_pos rfl]at h';rw[if_pos rfl];exact ht hi H' nx' h'
  | false=>rw[hi,if_neg (by simp)]at h';rw[if_neg (by simp)];exact hf hi H' nx' h'
theorem TF (w:List UInt8):P0 85 [au w] (.bool (decide (w=[58,61])||decide (w=[58,58]))):=Pure.of rfl λH nx=>by
 rw[q85];simp only[ab,XN];cases decide (w=[58,61])with
 | true=>simp only[ab];exact Wq.ret (.refl _ _)
 | false=>simp only[ab];exact Wq.ret (.refl _ _)
end
section
variable {L:List Tok}
def Tm {α:Type}(L:List Tok)(x:PR α)(m:Nat)(s:α->Nat):Prop:=∃r,x=some r/\∀a k',r=kn.ok a k'->L.length-k'+s a<=m
variable {α β:Type}{m m' k:Nat}{s:β->Nat}{s1:α->Nat}
theorem Tm.bd {x:PR α}{f:α->Nat->PR β}(h:Tm L x m' s1)(hf:∀a k',L.length-k'+s1 a<=m'->Tm L (f a k') m s):Tm L (bd x f) m s:=by
 obtain⟨r,rfl,h2⟩:=h;cases r with
 | bad a=>exact⟨.bad a,rfl,λa k' q=>by cases q⟩
 | ok a k'=>exact hf a k' (h2 a k' rfl)
theorem Tm.tail {x:PR β}{s':β->Nat}(h:Tm L x m' s')(hf:∀a k',L.length-k'+s' a<=m'->L.length-k'+s a<=m):Tm L x m s:=by
 obtain⟨r,rfl,h2⟩:=h;exact⟨r,rfl,λa k' q=>hf a k' (h2 a k' q)⟩
theorem Tm.fail:Tm L (jL L k:PR β) m s:=⟨_,rfl,λa k' q=>by cases q⟩
theorem Tm.yes {a:β}(h:L.length-k+s a<=m):Tm L (yes a k) m s:=⟨_,rfl,λa' k' q=>by cases q;exact h⟩
theorem Tm.ga {w:List UInt8}{x y:PR β}(hx:k<L.length->Tm L x m s)(hy:Tm L y m s):Tm L (if bP L k w=true then x else y) m s:=by
 by_cases hi:bP L k w=true
 . rw[if_pos hi];exact hx (mr hi)
 . rw[if_neg hi];exact hy
theorem Tm.GK {c:Int}{x y:PR β}(hc:c≠0)(hx:k<L.length->Tm L x m s)(hy:Tm L y m s):Tm L (if(tk L k).k=c then x else y) m s:=by
 by_cases hi:(tk L k).k=c
 . rw[if_pos hi];exact hx (gQ (by rw[hi];exact hc))
 . rw[if_neg hi];exact hy
theorem Tm.aQ {w:List UInt8}{f:Nat->PR β}(hf:k<L.length->Tm L (f (k+1)) m s):Tm L (aQ L w k f) m s:=by
 unfold Go.Proofs.YthjhonhhbddhkaaDoor.aQ;exact Tm.ga hf Tm.fail
theorem Tm.bY {c:Int}{f:Tok->Nat->PR β}(hc:c≠0)(hf:k<L.length->Tm L (f (tk L k) (k+1)) m s):Tm L (bY L c k f) m s:=by
 unfold Go.Proofs.YthjhonhhbddhkaaDoor.bY;exact Tm.GK hc hf Tm.fail
theorem Tm.GN {b:Bool}{x y:PR β}(hb:b=true->k<L.length)(hx:k<L.length->Tm L x m s)(hy:Tm L y m s):Tm L (if b=true then x else y) m s:=by
 by_cases hi:b=true
 . rw[if_pos hi];exact hx (hb hi)
 . rw[if_neg hi];exact hy
theorem E9 (h:mY L k=true):k<L.length:=by
 refine gQ λq=> ?_;unfold mY at h;rw[q]at h;simp at h
theorem E_ (h:ko L k=true):k<L.length:=by
 refine gQ λq=> ?_;unfold ko at h;rw[q]at h;simp at h
theorem Nh {lv:Nat}(h:gV L lv k=true):k<L.length:=by
 unfold gV at h;rw[Bool.and_eq_true]at h;exact E_ h.1
theorem Ni {lv:Nat}(h:gV L lv k=true):lv<=6:=by
 unfold gV at h;rw[Bool.and_eq_true]at h;refine Nat.le_of_lt_succ (Decidable.byContradiction λq=> ?_);have:aC[lv]? = none:=List.getElem?_eq_none (by simpa[aC]using Nat.le_of_not_lt q);rw[this]at h;simp at h
theorem Nj (h:unOp L k=true):k<L.length:=by
 unfold unOp at h;rw[Bool.and_eq_true]at h;exact E_ h.1
theorem Nk (h:js L k=true):k<L.length:=by
 unfold js at h;rw[Bool.or_eq_true,Bool.or_eq_true]at h
 rcases h with h | h | h
 . exact E9 h
 . exact mr h
 . exact mr h
theorem Fa (h:jZ L k=true):k<L.length:=by
 unfold jZ at h;rw[Bool.or_eq_true,Bool.or_eq_true,Bool.or_eq_true]at h
 rcases h with h | h | h | h
 . exact E9 h
 . exact mr h
 . exact mr h
 . exact mr h
theorem yy {w:List UInt8}:L.length-skip L w k<=L.length-k:=by
 unfold skip
 by_cases hi:bP L k w=true
 . rw[if_pos hi];omega
 . rw[if_neg hi];exact Nat.le_refl _
structure fQ (L:List Tok)(n:Nat)(p:PS):Prop where
 exp:∀k,12*(L.length-k)+10<n->Tm L (p.exp k) (L.length-k) (λ_=>1)
 j4:∀e k,12*(L.length-k)+2<n->Tm L (p.j4 e k) (L.length-k) (λ_=>1)
 bin:∀lv k,lv<=7->12*(L.length-k)+(9-lv)<n->Tm L (p.bin lv k) (L.length-k) (λ_=>1)
 jt:∀lv a k,12*(L.length-k)<n->Tm L (p.jt lv a k) (L.length-k) (λ_=>0)
 un:∀k,12*(L.length-k)+1<n->Tm L (p.un k) (L.length-k) (λ_=>1)
 ju:∀e k,12*(L.length-k)+1<n->Tm L (p.ju e k) (L.length-k) (λ_=>0)
 atom:∀k,12*(L.length-k)+0<n->Tm L (p.atom k) (L.length-k) (λ_=>1)
 cU:∀w e k,12*(L.length-k)+0<n->Tm L (p.cU w e k) (L.length-k) (λ_=>0)
 lt:∀k,12*(L.length-k)+1<n->Tm L (p.lt k) (L.length-k) (λ_=>1)
 iD:∀e k,12*(L.length-k)+1<n->Tm L (p.iD e k) (L.length-k) (λ_=>1)
 pat:∀k,12*(L.length-k)+1<n->Tm L (p.pat k) (L.length-k) (λ_=>1)
 cm:∀k,12*(L.length-k)+0<n->Tm L (p.cm k) (L.length-k) (λ_=>1)
 iP:∀e k,12*(L.length-k)+0<n->Tm L (p.iP e k) (L.length-k) (λ_=>0)
 gJ:∀k,12*(L.length-k)+1<n->Tm L (p.gJ k) (L.length-k) (λ_=>1)
 ff:∀e k,12*(L.length-k)+0<n->Tm L (p.ff e k) (L.length-k) (λ_=>0)
 post:∀k,12*(L.length-k)+0<n->Tm L (p.post k) (L.length-k) (λ_=>1)
 rC:∀e k,12*(L.length-k)+0<n->Tm L (p.rC e k) (L.length-k) (λ_=>0)
 dZ:∀e k,12*(L.length-k)+0<n->Tm L (p.dZ e k) (L.length-k) (λ_=>0)
 iH:∀k,12*(L.length-k)+0<n->Tm L (p.iH k) (L.length-k) (λ_=>1)
 bind:∀k,12*(L.length-k)+0<n->Tm L (p.bind k) (L.length-k) (λd=>if Option.isSome d=true then 1 else 0)
 ji:∀e k,12*(L.length-k)+0<n->Tm L (p.ji e k) (L.length-k) (λ_=>0)
 fn:∀k,12*(L.length-k)+0<n->Tm L (p.fn k) (L.length-k) (λ_=>1)
 tH:∀e k,12*(L.length-k)+1<n->Tm L (p.tH e k) (L.length-k) (λ_=>0)
 dec:∀k,12*(L.length-k)+1<n->Tm L (p.dec k) (L.length-k) (λd=>if Option.isSome d=true then 1 else 0)
 data:∀k,12*(L.length-k)+0<n->Tm L (p.data k) (L.length-k) (λ_=>1)
 iq:∀e k,12*(L.length-k)+0<n->Tm L (p.iq e k) (L.length-k) (λ_=>0)
 iQ:∀e k,12*(L.length-k)+0<n->Tm L (p.iQ e k) (L.length-k) (λ_=>0)
 cq:∀e k,12*(L.length-k)+11<n->Tm L (p.cq e k) (L.length-k) (λ_=>0)
variable {n:Nat}{p:PS}
theorem TG (h:fQ L n p):∀k,12*(L.length-k)+10<n+1->Tm L (jv L p k) (L.length-k) (λ_=>1):=by
 intro k hn;unfold jv
 repeat' (first
  | with_reducible refine Tm.ga (λhk=> ?_) ?_
  | refine Tm.aQ (λhk=> ?_)
  | refine Tm.bd (h.exp _ (by omega)) (λa k1 hk=> ?_)
  | refine Tm.bd (h.j4 _ _ (by omega)) (λa k1 hk=> ?_)
  | refine Tm.bd (h.bin _ _ (by omega) (by omega)) (λa k1 hk=> ?_)
  | exact Tm.tail (h.exp _ (by omega)) (λa k1 hk=>by omega)
  | exact Tm.tail (h.j4 _ _ (by omega)) (λa k1 hk=>by omega)
  | exact Tm.tail (h.bin _ _ (by omega) (by omega)) (λa k1 hk=>by omega)
  | exact Tm.yes (by omega)
  | exact Tm.fail)
theorem TH (h:fQ L n p):∀e k,12*(L.length-k)+2<n+1->Tm L (qY L p e k) (L.length-k) (λ_=>1):=by
 intro e k hn;unfold qY
 repeat' (first
  | with_reducible refine Tm.ga (λhk=> ?_) ?_
  | refine Tm.aQ (λhk=> ?_)
  | refine Tm.bd (h.exp _ (by omega)) (λa k1 hk=> ?_)
  | refine Tm.bd (h.j4 _ _ (by omega)) (λa k1 hk=> ?_)
  | refine Tm.bd (h.pat _ (by omega)) (λa k1 hk=> ?_)
  | exact Tm.tail (h.exp _ (by omega)) (λa k1 hk=>by omega)
  | exact Tm.tail (h.j4 _ _ (by omega)) (λa k1 hk=>by omega)
  | exact Tm.tail (h.pat _ (by omega)) (λa k1 hk=>by omega)
  | exact Tm.yes (by omega)
  | exact Tm.fail)
theorem KC (h:fQ L n p):∀lv a k,12*(L.length-k)<n+1->Tm L (mZ L p lv a k) (L.length-k) (λ_=>0):=by
 intro lv a k hn;unfold mZ
 by_cases hi:gV L lv k=true
 . rw[if_pos hi];have h1:=Nh hi;have h2:=Ni hi
   by_cases h3:lv=2\/lv=4
   . rw[if_pos h3];exact Tm.bd (h.bin lv (k+1) (by omega) (by omega)) λb k1 hk=>Tm.yes (by omega)
   . rw[if_neg h3];exact Tm.bd (h.bin (lv+1) (k+1) (by omega) (by omega)) λb k1 hk=>Tm.tail (h.jt lv _ k1 (by omega)) λb k2 hk2=>by omega
 . rw[if_neg hi];exact Tm.yes (by omega)
theorem TJ (h:fQ L n p):∀lv k,lv<=7->12*(L.length-k)+(9-lv)<n+1->Tm L (lI L p lv k) (L.length-k) (λ_=>1):=by
 intro lv k hl hn;unfold lI
 by_cases h7:lv=7
 . rw[if_pos h7];exact Tm.tail (h.un k (by omega)) (λa k1 hk=>hk)
 . rw[if_neg h7];exact Tm.bd (h.bin (lv+1) k (by omega) (by omega)) λa k1 hk=>Tm.tail (KC h lv a k1 (by omega)) λb k2 hk2=>by omega
theorem Ca (h:fQ L n p):∀e k,12*(L.length-k)+1<n+1->Tm L (nT L p e k) (L.length-k) (λ_=>0):=by
 intro e k hn;unfold nT
 repeat' (first
  | with_reducible refine Tm.ga (λhk=> ?_) ?_
  | refine Tm.GN (λhb=>Nk hb) (λhk=> ?_) ?_
  | refine Tm.bd (h.ju _ _ (by omega)) (λa k1 hk=> ?_)
  | refine Tm.bd (h.atom _ (by omega)) (λa k1 hk=> ?_)
  | exact Tm.tail (h.ju _ _ (by omega)) (λa k1 hk=>by omega)
  | exact Tm.tail (h.atom _ (by omega)) (λa k1 hk=>by omega)
  | exact Tm.yes (by omega)
  | exact Tm.fail)
theorem Wg (h:fQ L n p):∀k,12*(L.length-k)+1<n+1->Tm L (A3 L p k) (L.length-k) (λ_=>1):=by
 intro k hn;unfold A3
 repeat' (first
  | with_reducible refine Tm.ga (λhk=> ?_) ?_
  | refine Tm.GN (λhb=>Nj hb) (λhk=> ?_) ?_
  | refine Tm.bd (h.un _ (by omega)) (λa k1 hk=> ?_)
  | refine Tm.bd (h.atom _ (by omega)) (λa k1 hk=> ?_)
  | refine Tm.bd (Ca h _ _ (by omega)) (λa k1 hk=> ?_)
  | exact Tm.tail (h.un _ (by omega)) (λa k1 hk=>by omega)
  | exact Tm.tail (h.atom _ (by omega)) (λa k1 hk=>by omega)
  | exact Tm.tail (Ca h _ _ (by omega)) (λa k1 hk=>by omega)
  | exact Tm.yes (by omega)
  | exact Tm.fail)
theorem tK (h:fQ L n p):∀w e k,12*(L.length-k)+0<n+1->Tm L (kp L p w e k) (L.length-k) (λ_=>0):=by
 intro w e k hn;unfold kp
 repeat' (first
  | with_reducible refine Tm.ga (λhk=> ?_) ?_
  | refine Tm.bd (h.exp _ (by omega)) (λa k1 hk=> ?_)
  | refine Tm.bd (h.cU _ _ _ (by omega)) (λa k1 hk=> ?_)
  | exact Tm.tail (h.exp _ (by omega)) (λa k1 hk=>by omega)
  | exact Tm.tail (h.cU _ _ _ (by omega)) (λa k1 hk=>by omega)
  | exact Tm.yes (by omega)
  | exact Tm.fail)
theorem Nl (h:fQ L n p):∀k,12*(L.length-k)+0<n+1->Tm L (fK L p k) (L.length-k) (λ_=>1):=by
 intro k hn;unfold fK
 repeat' (first
  | with_reducible refine Tm.ga (λhk=> ?_) ?_
  | refine Tm.GK (by decide) (λhk=> ?_) ?_
  | refine Tm.aQ (λhk=> ?_)
  | refine Tm.bd (h.exp _ (by omega)) (λa k1 hk=> ?_)
  | refine Tm.bd (h.lt _ (by omega)) (λa k1 hk=> ?_)
  | refine Tm.bd (tK h _ _ _ (by omega)) (λa k1 hk=> ?_)
  | exact Tm.tail (h.exp _ (by omega)) (λa k1 hk=>by omega)
  | exact Tm.tail (h.lt _ (by omega)) (λa k1 hk=>by omega)
  | exact Tm.tail (tK h _ _ _ (by omega)) (λa k1 hk=>by omega)
  | exact Tm.yes (by omega)
  | exact Tm.fail)
theorem Cb (h:fQ L n p):∀e k,12*(L.length-k)+1<n+1->Tm L (m4 L p e k) (L.length-k) (λ_=>1):=by
 intro e k hn;unfold m4;refine Tm.ga (λhk=>Tm.yes (by omega)) ?_;refine Tm.bd (h.bind _ (by omega)) λd k1 hk=> ?_;cases d with
 | none=>exact Tm.fail
 | some d=>
   have hk:L.length-k1+1<=L.length-k:=hk;have:=@yy L k1 [59];exact Tm.tail (h.iD _ _ (by omega)) λb k2 hk2=>by omega
theorem Wh (h:fQ L n p):∀k,12*(L.length-k)+1<n+1->Tm L (Hy L p k) (L.length-k) (λ_=>1):=by
 intro k hn;unfold Hy
 repeat' (first
  | with_reducible refine Tm.ga (λhk=> ?_) ?_
  | refine Tm.aQ (λhk=> ?_)
  | refine Tm.bd (h.exp _ (by omega)) (λa k1 hk=> ?_)
  | refine Tm.bd (Cb h _ _ (by omega)) (λa k1 hk=> ?_)
  | refine Tm.bd (tK h _ _ _ (by omega)) (λa k1 hk=> ?_)
  | exact Tm.tail (h.exp _ (by omega)) (λa k1 hk=>by omega)
  | exact Tm.tail (Cb h _ _ (by omega)) (λa k1 hk=>by omega)
  | exact Tm.tail (tK h _ _ _ (by omega)) (λa k1 hk=>by omega)
  | exact Tm.yes (by omega)
  | exact Tm.fail)
theorem KD (h:fQ L n p):∀k,12*(L.length-k)+1<n+1->Tm L (oV L p k) (L.length-k) (λ_=>1):=by
 intro k hn;unfold oV
 repeat' (first
  | with_reducible refine Tm.ga (λhk=> ?_) ?_
  | refine Tm.GK (by decide) (λhk=> ?_) ?_
  | refine Tm.GN (λhb=>Fa hb) (λhk=> ?_) ?_
  | refine Tm.bd (h.cm _ (by omega)) (λa k1 hk=> ?_)
  | exact Tm.tail (h.cm _ (by omega)) (λa k1 hk=>by omega)
  | exact Tm.yes (by omega)
  | exact Tm.fail)
theorem TK (h:fQ L n p):∀k,12*(L.length-k)+1<n+1->Tm L (oW L p k) (L.length-k) (λ_=>1):=by
 intro k hn;unfold oW
 repeat' (first
  | with_reducible refine Tm.ga (λhk=> ?_) ?_
  | refine Tm.bd (h.pat _ (by omega)) (λa k1 hk=> ?_)
  | refine Tm.bd (KD h _ (by omega)) (λa k1 hk=> ?_)
  | exact Tm.tail (h.pat _ (by omega)) (λa k1 hk=>by omega)
  | exact Tm.tail (KD h _ (by omega)) (λa k1 hk=>by omega)
  | exact Tm.yes (by omega)
  | exact Tm.fail)
theorem yz (h:fQ L n p):∀e k,12*(L.length-k)+0<n+1->Tm L (mn L p e k) (L.length-k) (λ_=>0):=by
 intro e k hn;unfold mn
 repeat' (first
  | with_reducible refine Tm.ga (λhk=> ?_) ?_
  | refine Tm.bd (h.pat _ (by omega)) (λa k1 hk=> ?_)
  | refine Tm.bd (h.iP _ _ (by omega)) (λa k1 hk=> ?_)
  | exact Tm.tail (h.pat _ (by omega)) (λa k1 hk=>by omega)
  | exact Tm.tail (h.iP _ _ (by omega)) (λa k1 hk=>by omega)
  | exact Tm.yes (by omega)
  | exact Tm.fail)
theorem KE (h:fQ L n p):∀k,12*(L.length-k)+0<n+1->Tm L (dB L p k) (L.length-k) (λ_=>1):=by
 intro k hn;unfold dB
 repeat' (first
  | with_reducible refine Tm.ga (λhk=> ?_) ?_
  | refine Tm.GK (by decide) (λhk=> ?_) ?_
  | refine Tm.aQ (λhk=> ?_)
  | refine Tm.bY (by decide) (λhk=> ?_)
  | refine Tm.bd (h.pat _ (by omega)) (λa k1 hk=> ?_)
  | refine Tm.bd (yz h _ _ (by omega)) (λa k1 hk=> ?_)
  | exact Tm.tail (h.pat _ (by omega)) (λa k1 hk=>by omega)
  | exact Tm.tail (yz h _ _ (by omega)) (λa k1 hk=>by omega)
  | exact Tm.yes (by omega)
  | exact Tm.fail)
theorem yA (h:fQ L n p):∀e k,12*(L.length-k)+0<n+1->Tm L (mo L p e k) (L.length-k) (λ_=>0):=by
 intro e k hn;unfold mo
 repeat' (first
  | with_reducible refine Tm.ga (λhk=> ?_) ?_
  | refine Tm.bd (h.ff _ _ (by omega)) (λa k1 hk=> ?_)
  | refine Tm.bd (h.post _ (by omega)) (λa k1 hk=> ?_)
  | exact Tm.tail (h.ff _ _ (by omega)) (λa k1 hk=>by omega)
  | exact Tm.tail (h.post _ (by omega)) (λa k1 hk=>by omega)
  | exact Tm.yes (by omega)
  | exact Tm.fail)
theorem Fb (h:fQ L n p):∀k,12*(L.length-k)+1<n+1->Tm L (kq L p k) (L.length-k) (λ_=>1):=by
 intro k hn;unfold kq
 repeat' (first
  | with_reducible refine Tm.ga (λhk=> ?_) ?_
  | refine Tm.bd (h.post _ (by omega)) (λa k1 hk=> ?_)
  | refine Tm.bd (yA h _ _ (by omega)) (λa k1 hk=> ?_)
  | exact Tm.tail (h.post _ (by omega)) (λa k1 hk=>by omega)
  | exact Tm.tail (yA h _ _ (by omega)) (λa k1 hk=>by omega)
  | exact Tm.yes (by omega)
  | exact Tm.fail)
theorem TL (h:fQ L n p):∀k,12*(L.length-k)+1<n+1->Tm L (lJ L p k) (L.length-k) (λ_=>1):=by
 intro k hn;unfold lJ
 repeat' (first
  | with_reducible refine Tm.ga (λhk=> ?_) ?_
  | refine Tm.bd (h.gJ _ (by omega)) (λa k1 hk=> ?_)
  | refine Tm.bd (Fb h _ (by omega)) (λa k1 hk=> ?_)
  | exact Tm.tail (h.gJ _ (by omega)) (λa k1 hk=>by omega)
  | exact Tm.tail (Fb h _ (by omega)) (λa k1 hk=>by omega)
  | exact Tm.yes (by omega)
  | exact Tm.fail)
theorem Cc (h:fQ L n p):∀e k,12*(L.length-k)+0<n+1->Tm L (oX L p e k) (L.length-k) (λ_=>0):=by
 intro e k hn;unfold oX
 repeat' (first
  | with_reducible refine Tm.ga (λhk=> ?_) ?_
  | refine Tm.bd (h.gJ _ (by omega)) (λa k1 hk=> ?_)
  | refine Tm.bd (h.rC _ _ (by omega)) (λa k1 hk=> ?_)
  | exact Tm.tail (h.gJ _ (by omega)) (λa k1 hk=>by omega)
  | exact Tm.tail (h.rC _ _ (by omega)) (λa k1 hk=>by omega)
  | exact Tm.yes (by omega)
  | exact Tm.fail)
theorem Fc (h:fQ L n p):∀k,12*(L.length-k)+0<n+1->Tm L (jj L p k) (L.length-k) (λ_=>1):=by
 intro k hn;unfold jj
 repeat' (first
  | with_reducible refine Tm.ga (λhk=> ?_) ?_
  | refine Tm.GK (by decide) (λhk=> ?_) ?_
  | refine Tm.GN (λhb=>yx hb) (λhk=> ?_) ?_
  | refine Tm.aQ (λhk=> ?_)
  | refine Tm.bd (h.gJ _ (by omega)) (λa k1 hk=> ?_)
  | refine Tm.bd (Cc h _ _ (by omega)) (λa k1 hk=> ?_)
  | exact Tm.tail (h.gJ _ (by omega)) (λa k1 hk=>by omega)
  | exact Tm.tail (Cc h _ _ (by omega)) (λa k1 hk=>by omega)
  | exact Tm.yes (by omega)
  | exact Tm.fail)
theorem yB (h:fQ L n p):∀e k,12*(L.length-k)+0<n+1->Tm L (gK L p e k) (L.length-k) (λ_=>0):=by
 intro e k hn;unfold gK
 repeat' (first
  | with_reducible refine Tm.ga (λhk=> ?_) ?_
  | refine Tm.GN (λhb=>yx hb) (λhk=> ?_) ?_
  | refine Tm.bd (h.dZ _ _ (by omega)) (λa k1 hk=> ?_)
  | exact Tm.tail (h.dZ _ _ (by omega)) (λa k1 hk=>by omega)
  | exact Tm.yes (by omega)
  | exact Tm.fail)
theorem Nm (h:fQ L n p):∀k,12*(L.length-k)+0<n+1->Tm L (jM L p k) (L.length-k) (λ_=>1):=by
 intro k hn;unfold jM
 repeat' (first
  | with_reducible refine Tm.ga (λhk=> ?_) ?_
  | refine Tm.bd (Fc h _ (by omega)) (λa k1 hk=> ?_)
  | refine Tm.bd (yB h _ _ (by omega)) (λa k1 hk=> ?_)
  | exact Tm.tail (Fc h _ (by omega)) (λa k1 hk=>by omega)
  | exact Tm.tail (yB h _ _ (by omega)) (λa k1 hk=>by omega)
  | exact Tm.yes (by omega)
  | exact Tm.fail)
theorem TM (h:fQ L n p):∀k,12*(L.length-k)+0<n+1->Tm L (qZ L p k) (L.length-k) (λ_=>1):=by
 intro k hn;unfold qZ
 repeat' (first
  | with_reducible refine Tm.ga (λhk=> ?_) ?_
  | refine Tm.bY (by decide) (λhk=> ?_)
  | refine Tm.bd (h.gJ _ (by omega)) (λa k1 hk=> ?_)
  | exact Tm.tail (h.gJ _ (by omega)) (λa k1 hk=>by omega)
  | exact Tm.yes (by omega)
  | exact Tm.fail)
theorem KF (h:fQ L n p):∀e k,12*(L.length-k)+0<n+1->Tm L (nU L p e k) (L.length-k) (λ_=>0):=by
 intro e k hn;unfold nU
 repeat' (first
  | with_reducible refine Tm.ga (λhk=> ?_) ?_
  | refine Tm.bd (h.ji _ _ (by omega)) (λa k1 hk=> ?_)
  | refine Tm.bd (h.fn _ (by omega)) (λa k1 hk=> ?_)
  | exact Tm.tail (h.ji _ _ (by omega)) (λa k1 hk=>by omega)
  | exact Tm.tail (h.fn _ (by omega)) (λa k1 hk=>by omega)
  | exact Tm.yes (by omega)
  | exact Tm.fail)
theorem Nn (h:fQ L n p):∀k,12*(L.length-k)+0<n+1->Tm L (jN L p k) (L.length-k) (λd=>if Option.isSome d=true then 1 else 0):=by
 intro k hn;unfold jN;refine Tm.ga (λhk=> ?_) (Tm.ga (λhk=> ?_) (Tm.yes (Nat.le_refl _)))
 . refine Tm.bd (h.pat _ (by omega)) λa k1 hk1=>Tm.aQ λhk2=>Tm.bd (h.exp _ (by omega)) λb k2 hk3=>Tm.yes ?_;show L.length-k2+1<=_;omega
 . refine Tm.bd (h.fn _ (by omega)) λa k1 hk1=>Tm.bd (KF h _ _ (by omega)) λb k2 hk3=>Tm.yes ?_;show L.length-k2+1<=_;omega
theorem Cd (h:fQ L n p):∀e k,12*(L.length-k)+1<n+1->Tm L (m5 L p e k) (L.length-k) (λ_=>0):=by
 intro e k hn;unfold m5
 repeat' (first
  | with_reducible refine Tm.ga (λhk=> ?_) ?_
  | refine Tm.GN (λhb=>Fa hb) (λhk=> ?_) ?_
  | refine Tm.bd (h.cm _ (by omega)) (λa k1 hk=> ?_)
  | refine Tm.bd (h.tH _ _ (by omega)) (λa k1 hk=> ?_)
  | exact Tm.tail (h.cm _ (by omega)) (λa k1 hk=>by omega)
  | exact Tm.tail (h.tH _ _ (by omega)) (λa k1 hk=>by omega)
  | exact Tm.yes (by omega)
  | exact Tm.fail)
theorem Wi (h:fQ L n p):∀k,12*(L.length-k)+0<n+1->Tm L (HA L p k) (L.length-k) (λ_=>1):=by
 intro k hn;unfold HA
 repeat' (first
  | with_reducible refine Tm.ga (λhk=> ?_) ?_
  | refine Tm.aQ (λhk=> ?_)
  | refine Tm.bY (by decide) (λhk=> ?_)
  | refine Tm.bd (h.exp _ (by omega)) (λa k1 hk=> ?_)
  | refine Tm.bd (h.cm _ (by omega)) (λa k1 hk=> ?_)
  | refine Tm.bd (Cd h _ _ (by omega)) (λa k1 hk=> ?_)
  | exact Tm.tail (h.exp _ (by omega)) (λa k1 hk=>by omega)
  | exact Tm.tail (h.cm _ (by omega)) (λa k1 hk=>by omega)
  | exact Tm.tail (Cd h _ _ (by omega)) (λa k1 hk=>by omega)
  | exact Tm.yes (by omega)
  | exact Tm.fail)
theorem TN (h:fQ L n p):∀k,12*(L.length-k)+1<n+1->Tm L (kr L p k) (L.length-k) (λd=>if Option.isSome d=true then 1 else 0):=by
 intro k hn;unfold kr;refine Tm.ga (λhk=> ?_) (Tm.ga (λhk=> ?_) ?_)
 . refine Tm.bd (h.data _ (by omega)) λa k1 hk1=>Tm.yes ?_;show L.length-k1+1<=_;omega
 . refine Tm.bd (h.iH _ (by omega)) λa k1 hk1=>Tm.yes ?_;show L.length-k1+1<=_;omega
 . exact Tm.tail (h.bind _ (by omega)) λa k1 hk1=>hk1
theorem Ce (h:fQ L n p):∀e k,12*(L.length-k)+0<n+1->Tm L (fi L p e k) (L.length-k) (λ_=>0):=by
 intro e k hn;unfold fi
 repeat' (first
  | with_reducible refine Tm.ga (λhk=> ?_) ?_
  | refine Tm.bY (by decide) (λhk=> ?_)
  | refine Tm.bd (h.iq _ _ (by omega)) (λa k1 hk=> ?_)
  | exact Tm.tail (h.iq _ _ (by omega)) (λa k1 hk=>by omega)
  | exact Tm.yes (by omega)
  | exact Tm.fail)
theorem Fe (h:fQ L n p):∀k,12*(L.length-k)+0<n+1->Tm L (nu L p k) (L.length-k) (λ_=>0):=by
 intro k hn;unfold nu
 repeat' (first
  | with_reducible refine Tm.ga (λhk=> ?_) ?_
  | refine Tm.GK (by decide) (λhk=> ?_) ?_
  | refine Tm.aQ (λhk=> ?_)
  | refine Tm.bY (by decide) (λhk=> ?_)
  | refine Tm.bd (Ce h _ _ (by omega)) (λa k1 hk=> ?_)
  | exact Tm.tail (Ce h _ _ (by omega)) (λa k1 hk=>by omega)
  | exact Tm.yes (by omega)
  | exact Tm.fail)
theorem yC (h:fQ L n p):∀e k,12*(L.length-k)+0<n+1->Tm L (ir L p e k) (L.length-k) (λ_=>0):=by
 intro e k hn;unfold ir
 repeat' (first
  | with_reducible refine Tm.ga (λhk=> ?_) ?_
  | refine Tm.bd (h.iH _ (by omega)) (λa k1 hk=> ?_)
  | refine Tm.bd (h.iQ _ _ (by omega)) (λa k1 hk=> ?_)
  | exact Tm.tail (h.iH _ (by omega)) (λa k1 hk=>by omega)
  | exact Tm.tail (h.iQ _ _ (by omega)) (λa k1 hk=>by omega)
  | exact Tm.yes (by omega)
  | exact Tm.fail)
theorem No (h:fQ L n p):∀k,12*(L.length-k)+0<n+1->Tm L (lF L p k) (L.length-k) (λ_=>1):=by
 intro k hn;unfold lF
 repeat' (first
  | with_reducible refine Tm.ga (λhk=> ?_) ?_
  | refine Tm.aQ (λhk=> ?_)
  | refine Tm.bY (by decide) (λhk=> ?_)
  | refine Tm.bd (h.iH _ (by omega)) (λa k1 hk=> ?_)
  | refine Tm.bd (Fe h _ (by omega)) (λa k1 hk=> ?_)
  | refine Tm.bd (yC h _ _ (by omega)) (λa k1 hk=> ?_)
  | exact Tm.tail (h.iH _ (by omega)) (λa k1 hk=>by omega)
  | exact Tm.tail (Fe h _ (by omega)) (λa k1 hk=>by omega)
  | exact Tm.tail (yC h _ _ (by omega)) (λa k1 hk=>by omega)
  | exact Tm.yes (by omega)
  | exact Tm.fail)
theorem Np (h:fQ L n p):∀e k,12*(L.length-k)+11<n+1->Tm L (jO L p e k) (L.length-k) (λ_=>0):=by
 intro e k hn;unfold jO
 by_cases hi:(tk L k).k=0
 . rw[if_pos hi];exact Tm.yes (by omega)
 . rw[if_neg hi];refine Tm.bd (h.dec _ (by omega)) λd k1 hk=> ?_;cases d with
   | none=>
     have hk:L.length-k1+0<=L.length-k:=hk;refine Tm.bd (h.exp _ (by omega)) λd k2 hk2=> ?_;have:=@yy L k2 [59];exact Tm.tail (h.cq _ _ (by omega)) λb k3 hk3=>by omega
   | some d=>
     have hk:L.length-k1+1<=L.length-k:=hk;have:=@yy L k1 [59];exact Tm.tail (h.cq _ _ (by omega)) λb k2 hk2=>by omega
theorem Wj:∀n,fQ L n (ps L n)
 | 0=>by constructor<;>intros<;>omega
 | n+1=>by
   have h:=Wj n;exact {
    exp:=TG h
    j4:=TH h
    bin:=TJ h
    jt:=KC h
    un:=Wg h
    ju:=Ca h
    atom:=Nl h
    cU:=tK h
    lt:=Wh h
    iD:=Cb h
    pat:=TK h
    cm:=KE h
    iP:=yz h
    gJ:=TL h
    ff:=yA h
    post:=Nm h
    rC:=Cc h
    dZ:=yB h
    iH:=TM h
    bind:=Nn h
    ji:=KF h
    fn:=Wi h
    tH:=Cd h
    dec:=TN h
    data:=No h
    iq:=Ce h
    iQ:=yC h
    cq:=Np h }
end
end
end Go.Proofs.YthjhonhhbddhkaaDoor
namespace Go.Proofs.YthjhonhhbddhkaaDoor
open Go.Ev Go.RowKit
noncomputable section
set_option maxRecDepth 100000
set_option linter.unusedVariables false
set_option linter.unusedSimpArgs false
set_option maxHeartbeats 4000000
set_option maxHeartbeats 8000000
section
variable {L L':List Tok}{E K k k0 k1:Nat}{α β:Type}
def Lk (L:List Tok)(E K k:Nat)(x x':PR α):Prop:=k<=E->match x with
 | none=>True
 | some (.ok a k')=>k<=k'/\k'<=E/\(k'<=K->x'=x)
 | some (.bad a)=>∃j,k<=j/\j<=E/\a=(tk L j).at_/\(j<=K->x'=x)
def Ga (L L':List Tok)(E K:Nat):Prop:=(tk L E).k=0/\∀i,i<=K->tk L' i=tk L i
theorem Lk.mono {x x':PR α}(h:Lk L E K k x x')(hk:k0<=k)(hE:k<=E):Lk L E K k0 x x':=λ_=>by
 have h:=h hE;cases x with
 | none=>trivial
 | some r=>
   cases r with
   | ok a k'=>exact⟨by have:=h.1;omega,h.2⟩
   | bad a=>obtain⟨j,h1,h2⟩:=h;exact⟨j,by omega,h2⟩
theorem Lk.step {x x':PR α}(g:Ga L L' E K)(hk:(tk L k).k≠0)(h:Lk L E K (k+1) x x'):Lk L E K k x x':=λhE=>by
 have:k≠E:=λq=>hk (by rw[q];exact g.1);exact h.mono (Nat.le_succ k) (by omega) hE
theorem Lk.yes {a a':α}(h:k<=K->a'=a):Lk L E K k (yes a k) (yes a' k):=λhE=>⟨Nat.le_refl _,hE,λq=>by rw[h q]⟩
theorem Lk.fail (g:Ga L L' E K):Lk L E K k (jL L k:PR α) (jL L' k):=λhE=>⟨k,Nat.le_refl _,hE,rfl,λq=>by unfold jL;rw[g.2 k q]⟩
theorem Lk.bd {x x':PR α}{f f':α->Nat->PR β}(h:Lk L E K k x x')(hf:∀a k1,k<=k1->Lk L E K k1 (f a k1) (f' a k1)):Lk L E K k (bd x f) (bd x' f'):=λhE=>by
 have h:=h hE;cases x with
 | none=>exact trivial
 | some r=>
   cases r with
   | bad a=>
     obtain⟨j,h1,h2,h3,h4⟩:=h;exact⟨j,h1,h2,h3,λq=>by rw[h4 q];rfl⟩
   | ok a k'=>
     obtain⟨h1,h2,h3⟩:=h;have h5:=hf a k' h1 h2;show match f a k' with | none=>True | some (.ok a k2)=>_ | some (.bad a)=>_
     cases hx:f a k' with
     | none=>trivial
     | some r=>
       rw[hx]at h5;cases r with
       | ok b k2=>exact⟨by have:=h5.1;omega,h5.2.1,λq=>by rw[h3 (by have:=h5.1;omega)];show f' a k'=f a k';rw[hx];exact h5.2.2 q⟩
       | bad b=>
         obtain⟨j,g1,g2,g3,g4⟩:=h5;exact⟨j,by omega,g2,g3,λq=>by rw[h3 (by omega)];show f' a k'=f a k';rw[hx];exact g4 q⟩
theorem Lk.arg {x x' x'':PR α}(h:k<=K->x'=x'')(hx:Lk L E K k x x''):Lk L E K k x x':=λhE=>by
 have hx:=hx hE;cases x with
 | none=>trivial
 | some r=>
   cases r with
   | ok a k'=>exact⟨hx.1,hx.2.1,λq=>by rw[h (by have:=hx.1;omega)];exact hx.2.2 q⟩
   | bad a=>obtain⟨j,h1,h2,h3,h4⟩:=hx;exact⟨j,h1,h2,h3,λq=>by rw[h (by omega)];exact h4 q⟩
theorem Lk.ite {b b':Bool}{X Y X' Y':PR α}(g:Ga L L' E K)(hb:k<=K->b'=b)(hn:b=true->(tk L k).k≠0)(hX:Lk L E K (k+1) X X')(hY:Lk L E K k Y Y'):Lk L E K k (if b=true then X else Y) (if b'=true then X' else Y'):=by
 cases hbb:b with
 | true=>
   rw[if_pos rfl];refine Lk.step g (hn hbb) (Lk.arg (x'':=X') (λq=> ?_) hX);rw[hb (by omega),hbb,if_pos rfl]
 | false=>
   rw[if_neg (by decide)];refine Lk.arg (x'':=Y') (λq=> ?_) hY;rw[hb q,hbb,if_neg (by decide)]
theorem Lk.Nq {b b':Bool}{X Y X' Y':PR α}(hb:k<=K->b'=b)(hX:Lk L E K k X X')(hY:Lk L E K k Y Y'):Lk L E K k (if b=true then X else Y) (if b'=true then X' else Y'):=by
 cases hbb:b with
 | true=>
   rw[if_pos rfl];exact Lk.arg (x'':=X') (λq=>by rw[hb (by omega),hbb,if_pos rfl]) hX
 | false=>
   rw[if_neg (by decide)];exact Lk.arg (x'':=Y') (λq=>by rw[hb q,hbb,if_neg (by decide)]) hY
theorem Lk.Yl {p:Prop}[Decidable p]{X Y X' Y':PR α}(hX:Lk L E K k X X')(hY:Lk L E K k Y Y'):Lk L E K k (if p then X else Y) (if p then X' else Y'):=by
 by_cases h:p
 . rw[if_pos h,if_pos h];exact hX
 . rw[if_neg h,if_neg h];exact hY
theorem Cf (h:ko L k=true):(tk L k).k≠0:=λq=>by unfold ko at h;rw[q]at h;simp at h
theorem KG {w:List UInt8}(h:bP L k w=true):(tk L k).k≠0:=by
 unfold bP at h;rw[Bool.and_eq_true]at h;exact Cf h.1
theorem Ch (h:tk L' k=tk L k):ko L' k=ko L k:=by unfold ko;rw[h]
theorem j0 (w:List UInt8)(h:tk L' k=tk L k):bP L' k w=bP L k w:=by unfold bP;rw[Ch h,h]
theorem Nr (lv:Nat)(h:tk L' k=tk L k):gV L' lv k=gV L lv k:=by unfold gV;rw[Ch h,h]
theorem Ns (h:tk L' k=tk L k):unOp L' k=unOp L k:=by unfold unOp;rw[Ch h,h]
theorem Ff (h:tk L' k=tk L k):mY L' k=mY L k:=by unfold mY;rw[h]
theorem Nt (h:tk L' k=tk L k):js L' k=js L k:=by unfold js;rw[Ff h,j0 _ h,j0 _ h]
theorem Nu (h:tk L' k=tk L k):jZ L' k=jZ L k:=by unfold jZ;rw[Ff h,j0 _ h,j0 _ h,j0 _ h]
theorem Nv (h:tk L' k=tk L k):eZ L' k=eZ L k:=by unfold eZ;rw[j0 _ h,h]
theorem Nw {lv:Nat}(h:gV L lv k=true):(tk L k).k≠0:=by
 unfold gV at h;rw[Bool.and_eq_true]at h;exact Cf h.1
theorem Nx (h:unOp L k=true):(tk L k).k≠0:=by
 unfold unOp at h;rw[Bool.and_eq_true]at h;exact Cf h.1
theorem Ny (h:eZ L k=true):(tk L k).k≠0:=λq=>by
 unfold eZ bP ko at h;rw[q]at h;simp at h
theorem Lk.T {w:List UInt8}{X Y X' Y':PR α}(g:Ga L L' E K)(hX:Lk L E K (k+1) X X')(hY:Lk L E K k Y Y'):Lk L E K k (if bP L k w=true then X else Y) (if bP L' k w=true then X' else Y'):=Lk.ite g (λq=>j0 w (g.2 k q)) KG hX hY
theorem Lk.O {lv:Nat}{X Y X' Y':PR α}(g:Ga L L' E K)(hX:Lk L E K (k+1) X X')(hY:Lk L E K k Y Y'):Lk L E K k (if gV L lv k=true then X else Y) (if gV L' lv k=true then X' else Y'):=Lk.ite g (λq=>Nr lv (g.2 k q)) Nw hX hY
theorem Lk.U {X Y X' Y':PR α}(g:Ga L L' E K)(hX:Lk L E K (k+1) X X')(hY:Lk L E K k Y Y'):Lk L E K k (if unOp L k=true then X else Y) (if unOp L' k=true then X' else Y'):=Lk.ite g (λq=>Ns (g.2 k q)) Nx hX hY
theorem Lk.N {X Y X' Y':PR α}(g:Ga L L' E K)(hX:Lk L E K (k+1) X X')(hY:Lk L E K k Y Y'):Lk L E K k (if eZ L k=true then X else Y) (if eZ L' k=true then X' else Y'):=Lk.ite g (λq=>Nv (g.2 k q)) Ny hX hY
theorem Lk.BE {X Y X' Y':PR α}(g:Ga L L' E K)(hX:Lk L E K k X X')(hY:Lk L E K k Y Y'):Lk L E K k (if js L k=true then X else Y) (if js L' k=true then X' else Y'):=Lk.Nq (λq=>Nt (g.2 k q)) hX hY
theorem Lk.BP {X Y X' Y':PR α}(g:Ga L L' E K)(hX:Lk L E K k X X')(hY:Lk L E K k Y Y'):Lk L E K k (if jZ L k=true then X else Y) (if jZ L' k=true then X' else Y'):=Lk.Nq (λq=>Nu (g.2 k q)) hX hY
theorem Lk.Tn {w:List UInt8}{X Y X' Y':PR α}(g:Ga L L' E K)(hX:Lk L E K k X X')(hY:Lk L E K k Y Y'):Lk L E K k (if bP L k w=true then X else Y) (if bP L' k w=true then X' else Y'):=Lk.Nq (λq=>j0 w (g.2 k q)) hX hY
theorem Lk.Tb {w w2:List UInt8}{A B A' B':PR β}{f f':β->Nat->PR α}{Y Y':PR α}(g:Ga L L' E K)(hX:Lk L E K k (Go.Proofs.YthjhonhhbddhkaaDoor.bd (if bP L k w2=true then A else B) f) (Go.Proofs.YthjhonhhbddhkaaDoor.bd (if bP L' k w2=true then A' else B') f'))(hY:Lk L E K k Y Y'):Lk L E K k (if bP L k w=true then Go.Proofs.YthjhonhhbddhkaaDoor.bd (if bP L k w2=true then A else B) f else Y) (if bP L' k w=true then Go.Proofs.YthjhonhhbddhkaaDoor.bd (if bP L' k w2=true then A' else B') f' else Y'):=Lk.Tn g hX hY
theorem Lk.C {c:Int}{X Y X' Y':PR α}(g:Ga L L' E K)(hc:c≠0)(hX:Lk L E K (k+1) X X')(hY:Lk L E K k Y Y'):Lk L E K k (if(tk L k).k=c then X else Y) (if(tk L' k).k=c then X' else Y'):=by
 have:=Lk.ite (b:=decide ((tk L k).k=c)) (b':=decide ((tk L' k).k=c)) g (λq=>by rw[g.2 k q]) (λq=>by rw[of_decide_eq_true q];exact hc) hX hY;simpa using this
theorem Lk.Z {X Y X' Y':PR α}(g:Ga L L' E K)(hX:Lk L E K k X X')(hY:Lk L E K k Y Y'):Lk L E K k (if(tk L k).k=0 then X else Y) (if(tk L' k).k=0 then X' else Y'):=by
 have:=Lk.Nq (b:=decide ((tk L k).k=0)) (b':=decide ((tk L' k).k=0)) (λq=>by rw[g.2 k q]) hX hY;simpa using this
theorem Lk.aQ {w:List UInt8}{f f':Nat->PR α}(g:Ga L L' E K)(h:Lk L E K (k+1) (f (k+1)) (f' (k+1))):Lk L E K k (aQ L w k f) (aQ L' w k f'):=Lk.T g h (Lk.fail g)
theorem Lk.bY {c:Int}{f f':Tok->Nat->PR α}(g:Ga L L' E K)(hc:c≠0)(h:∀t,Lk L E K (k+1) (f t (k+1)) (f' t (k+1))):Lk L E K k (bY L c k f) (bY L' c k f'):=
 Lk.C g hc (Lk.arg (x'':=f' (tk L k) (k+1)) (λq=>by rw[g.2 k (by omega)]) (h (tk L k))) (Lk.fail g)
theorem Lk.skip {w:List UInt8}{f f':Nat->PR α}(g:Ga L L' E K)(h:∀k1,Lk L E K k1 (f k1) (f' k1)):Lk L E K k (f (skip L w k)) (f' (skip L' w k)):=by
 unfold Go.Proofs.YthjhonhhbddhkaaDoor.skip
 by_cases hi:bP L k w=true
 . rw[if_pos hi];refine Lk.step g (KG hi) (Lk.arg (x'':=f' (k+1)) (λq=> ?_) (h (k+1)));rw[j0 w (g.2 k (by omega)),if_pos hi]
 . rw[if_neg hi];refine Lk.arg (x'':=f' k) (λq=> ?_) (h k);rw[j0 w (g.2 k q),if_neg hi]
structure TO (L:List Tok)(E K:Nat)(p p':PS):Prop where
 exp:∀k,Lk L E K k (p.exp k) (p'.exp k)
 j4:∀e k,Lk L E K k (p.j4 e k) (p'.j4 e k)
 bin:∀lv k,Lk L E K k (p.bin lv k) (p'.bin lv k)
 jt:∀lv e k,Lk L E K k (p.jt lv e k) (p'.jt lv e k)
 un:∀k,Lk L E K k (p.un k) (p'.un k)
 ju:∀e k,Lk L E K k (p.ju e k) (p'.ju e k)
 atom:∀k,Lk L E K k (p.atom k) (p'.atom k)
 cU:∀w e k,Lk L E K k (p.cU w e k) (p'.cU w e k)
 lt:∀k,Lk L E K k (p.lt k) (p'.lt k)
 iD:∀e k,Lk L E K k (p.iD e k) (p'.iD e k)
 pat:∀k,Lk L E K k (p.pat k) (p'.pat k)
 cm:∀k,Lk L E K k (p.cm k) (p'.cm k)
 iP:∀e k,Lk L E K k (p.iP e k) (p'.iP e k)
 gJ:∀k,Lk L E K k (p.gJ k) (p'.gJ k)
 ff:∀e k,Lk L E K k (p.ff e k) (p'.ff e k)
 post:∀k,Lk L E K k (p.post k) (p'.post k)
 rC:∀e k,Lk L E K k (p.rC e k) (p'.rC e k)
 dZ:∀e k,Lk L E K k (p.dZ e k) (p'.dZ e k)
 iH:∀k,Lk L E K k (p.iH k) (p'.iH k)
 bind:∀k,Lk L E K k (p.bind k) (p'.bind k)
 ji:∀e k,Lk L E K k (p.ji e k) (p'.ji e k)
 fn:∀k,Lk L E K k (p.fn k) (p'.fn k)
 tH:∀e k,Lk L E K k (p.tH e k) (p'.tH e k)
 dec:∀k,Lk L E K k (p.dec k) (p'.dec k)
 data:∀k,Lk L E K k (p.data k) (p'.data k)
 iq:∀e k,Lk L E K k (p.iq e k) (p'.iq e k)
 iQ:∀e k,Lk L E K k (p.iQ e k) (p'.iQ e k)
 cq:∀e k,Lk L E K k (p.cq e k) (p'.cq e k)
theorem Wk {p p':PS}(g:Ga L L' E K)(h:TO L E K p p'):TO L E K (yw L p) (yw L' p'):=by
 constructor
 all_goals intros
 all_goals dsimp only[yw]
 all_goals try unfold jv
 all_goals try unfold qY
 all_goals try unfold lI
 all_goals try unfold mZ
 all_goals try unfold A3
 all_goals try unfold nT
 all_goals try unfold fK
 all_goals try unfold Hy
 all_goals try unfold kp
 all_goals try unfold m4
 all_goals try unfold oW
 all_goals try unfold oV
 all_goals try unfold dB
 all_goals try unfold mn
 all_goals try unfold lJ
 all_goals try unfold kq
 all_goals try unfold mo
 all_goals try unfold jM
 all_goals try unfold jj
 all_goals try unfold oX
 all_goals try unfold gK
 all_goals try unfold qZ
 all_goals try unfold jN
 all_goals try unfold nU
 all_goals try unfold HA
 all_goals try unfold m5
 all_goals try unfold kr
 all_goals try unfold lF
 all_goals try unfold nu
 all_goals try unfold fi
 all_goals try unfold ir
 all_goals try unfold jO
 all_goals repeat' (first
  | exact Lk.yes λ_=>rfl
  | exact Lk.yes λhk=>by simp(disch:=omega) only[g.2]
  | exact Lk.fail g
  | with_reducible refine Lk.Tb g ?_ ?_
  | with_reducible refine Lk.T g ?_ ?_
  | with_reducible refine Lk.aQ g ?_
  | with_reducible refine Lk.bY g (by decide) λt=> ?_
  | with_reducible refine Lk.Z g ?_ ?_
  | with_reducible refine Lk.C g (by decide) ?_ ?_
  | (refine Lk.arg (λhk=> ?_) (h.iq _ _);simp(disch:=omega) only[g.2];done)
  | with_reducible refine Lk.Yl ?_ ?_
  | with_reducible refine Lk.O g ?_ ?_
  | with_reducible refine Lk.U g ?_ ?_
  | with_reducible refine Lk.N g ?_ ?_
  | with_reducible refine Lk.BE g ?_ ?_
  | with_reducible refine Lk.BP g ?_ ?_
  | exact Lk.skip g (f:=p.iD _) (f':=p'.iD _) λk1=>h.iD _ _
  | exact Lk.skip g (f:=p.cq _) (f':=p'.cq _) λk1=>h.cq _ _
  | (refine Lk.arg (λhk=> ?_) (h.jt _ _ _);simp(disch:=omega) only[g.2];done)
  | (refine Lk.arg (λhk=> ?_) (h.dZ _ _);simp(disch:=omega) only[g.2];done)
  | (obtain _ | d:=a)
  | refine Lk.bd (h.exp _) λa k1 hk1=> ?_
  | with_reducible exact h.exp _
  | refine Lk.bd (h.j4 _ _) λa k1 hk1=> ?_
  | with_reducible exact h.j4 _ _
  | refine Lk.bd (h.bin _ _) λa k1 hk1=> ?_
  | with_reducible exact h.bin _ _
  | refine Lk.bd (h.jt _ _ _) λa k1 hk1=> ?_
  | with_reducible exact h.jt _ _ _
  | refine Lk.bd (h.un _) λa k1 hk1=> ?_
  | with_reducible exact h.un _
  | refine Lk.bd (h.ju _ _) λa k1 hk1=> ?_
  | with_reducible exact h.ju _ _
  | refine Lk.bd (h.atom _) λa k1 hk1=> ?_
  | with_reducible exact h.atom _
  | refine Lk.bd (h.cU _ _ _) λa k1 hk1=> ?_
  | with_reducible exact h.cU _ _ _
  | refine Lk.bd (h.lt _) λa k1 hk1=> ?_
  | with_reducible exact h.lt _
  | refine Lk.bd (h.iD _ _) λa k1 hk1=> ?_
  | with_reducible exact h.iD _ _
  | refine Lk.bd (h.pat _) λa k1 hk1=> ?_
  | with_reducible exact h.pat _
  | refine Lk.bd (h.cm _) λa k1 hk1=> ?_
  | with_reducible exact h.cm _
  | refine Lk.bd (h.iP _ _) λa k1 hk1=> ?_
  | with_reducible exact h.iP _ _
  | refine Lk.bd (h.gJ _) λa k1 hk1=> ?_
  | with_reducible exact h.gJ _
  | refine Lk.bd (h.ff _ _) λa k1 hk1=> ?_
  | with_reducible exact h.ff _ _
  | refine Lk.bd (h.post _) λa k1 hk1=> ?_
  | with_reducible exact h.post _
  | refine Lk.bd (h.rC _ _) λa k1 hk1=> ?_
  | with_reducible exact h.rC _ _
  | refine Lk.bd (h.dZ _ _) λa k1 hk1=> ?_
  | with_reducible exact h.dZ _ _
  | refine Lk.bd (h.iH _) λa k1 hk1=> ?_
  | with_reducible exact h.iH _
  | refine Lk.bd (h.bind _) λa k1 hk1=> ?_
  | with_reducible exact h.bind _
  | refine Lk.bd (h.ji _ _) λa k1 hk1=> ?_
  | with_reducible exact h.ji _ _
  | refine Lk.bd (h.fn _) λa k1 hk1=> ?_
  | with_reducible exact h.fn _
  | refine Lk.bd (h.tH _ _) λa k1 hk1=> ?_
  | with_reducible exact h.tH _ _
  | refine Lk.bd (h.dec _) λa k1 hk1=> ?_
  | with_reducible exact h.dec _
  | refine Lk.bd (h.data _) λa k1 hk1=> ?_
  | with_reducible exact h.data _
  | refine Lk.bd (h.iq _ _) λa k1 hk1=> ?_
  | with_reducible exact h.iq _ _
  | refine Lk.bd (h.iQ _ _) λa k1 hk1=> ?_
  | with_reducible exact h.iQ _ _
  | refine Lk.bd (h.cq _ _) λa k1 hk1=> ?_
  | with_reducible exact h.cq _ _
  | refine Lk.bd (Lk.bd (?_) λa k1 hk1=> ?_) λa k1 hk1=> ?_
  | refine Lk.bd (?_) λa k1 hk1=> ?_)
theorem Wl (g:Ga L L' E K):∀n,TO L E K (ps L n) (ps L' n)
 | 0=>by constructor<;>(intros;exact λ_=>trivial)
 | n+1=>Wk g (Wl g n)
end
end
end Go.Proofs.YthjhonhhbddhkaaDoor
namespace Go.Proofs.YthjhonhhbddhkaaDoor
open Go.Ev Go.RowKit
noncomputable section
set_option maxRecDepth 100000
set_option linter.unusedVariables false
set_option linter.unusedSimpArgs false
set_option maxHeartbeats 8000000
section
variable {nx0 nx nx' bp k:Nat}{H0 H H':T OB}{F A B G G':List Bx}{s:Bx}{R:Go.Ev.Out->T OB->Nat->Prop}{b:Nat}{l:List Value}{e t:TypeId}{L:List Tok}
abbrev aw:Value:= .slice none 0 0
abbrev j5 (b n c:Nat):Value:= .slice (some ⟨b,0,none⟩) n c
theorem Nz (c0 c1 c2 c3 c4 c5:Value)(z:List Value)(hz:bT P 44=some z):Instr.fill (λi=>some (i*6,6)) (bH z (1*6)) [(0,.agg ⟨[c0,c1,c2,c3,c4,c5]⟩)]=some ⟨[c0,c1,c2,c3,c4,c5]⟩:=by
 rw[bI]at hz;cases hz;kernel_rfl
theorem Hq.gL (cs:List Value)(hc:cs.length=6){kt:Value->T OB->Nat->Q}(h:Hp nx0 H0 (s::F) H nx)(hk:∀b H' nx',Hp nx0 H0 (s::(b,cs,44)::F) H' nx'->aF P pl X0 (kt (j5 b 1 1) H' nx') nx0 H0 R):aF P pl X0 (aR (aJ P H nx 42 1 (some [(0,.agg ⟨cs⟩)])) kt) nx0 H0 R:=
 match cs,hc with
 | [c0,c1,c2,c3,c4,c5],_=>Hq.row gh cj bI rfl (Nz _ _ _ _ _ _ _ bI) h hk
theorem NA (c0 c1 c2 c3 c4 c5 d0 d1 d2 d3 d4 d5:Value)(z:List Value)(hz:bT P 44=some z):Instr.fill (λi=>some (i*6,6)) (bH z (2*6)) [(0,.agg ⟨[c0,c1,c2,c3,c4,c5]⟩),(1,.agg ⟨[d0,d1,d2,d3,d4,d5]⟩)]=some ⟨[c0,c1,c2,c3,c4,c5,d0,d1,d2,d3,d4,d5]⟩:=by
 rw[bI]at hz;cases hz;kernel_rfl
theorem Hq.yD (cs ds:List Value)(hc:cs.length=6)(hd:ds.length=6){kt:Value->T OB->Nat->Q}(h:Hp nx0 H0 (s::F) H nx)(hk:∀b H' nx',Hp nx0 H0 (s::(b,cs++ds,44)::F) H' nx'->aF P pl X0 (kt (j5 b 2 2) H' nx') nx0 H0 R):aF P pl X0 (aR (aJ P H nx 42 2 (some [(0,.agg ⟨cs⟩),(1,.agg ⟨ds⟩)])) kt) nx0 H0 R:=
 match cs,hc,ds,hd with
 | [c0,c1,c2,c3,c4,c5],_,[d0,d1,d2,d3,d4,d5],_=>Hq.row gh cj bI rfl (NA _ _ _ _ _ _ _ _ _ _ _ _ _ bI) h hk
theorem NB (c0 c1 c2 c3 c4 c5 d0 d1 d2 d3 d4 d5 f0 f1 f2 f3 f4 f5:Value)(z:List Value)(hz:bT P 44=some z):Instr.fill (λi=>some (i*6,6)) (bH z (3*6)) [(0,.agg ⟨[c0,c1,c2,c3,c4,c5]⟩),(1,.agg ⟨[d0,d1,d2,d3,d4,d5]⟩),(2,.agg ⟨[f0,f1,f2,f3,f4,f5]⟩)]=some ⟨[c0,c1,c2,c3,c4,c5,d0,d1,d2,d3,d4,d5,f0,f1,f2,f3,f4,f5]⟩:=by
 rw[bI]at hz;cases hz;kernel_rfl
theorem Hq.NC (cs ds fs:List Value)(hc:cs.length=6)(hd:ds.length=6)(hf:fs.length=6){kt:Value->T OB->Nat->Q}(h:Hp nx0 H0 (s::F) H nx)(hk:∀b H' nx',Hp nx0 H0 (s::(b,cs++ds++fs,44)::F) H' nx'->aF P pl X0 (kt (j5 b 3 3) H' nx') nx0 H0 R):aF P pl X0 (aR (aJ P H nx 42 3 (some [(0,.agg ⟨cs⟩),(1,.agg ⟨ds⟩),(2,.agg ⟨fs⟩)])) kt) nx0 H0 R:=
 match cs,hc,ds,hd,fs,hf with
 | [c0,c1,c2,c3,c4,c5],_,[d0,d1,d2,d3,d4,d5],_,[f0,f1,f2,f3,f4,f5],_=>Hq.row gh cj bI rfl (NB _ _ _ _ _ _ _ _ _ _ _ _ _ _ _ _ _ _ _ bI) h hk
theorem Wm {n:Nat}(h:n<=1048576):br P 44 6 n=true:=by
 have:br P 44 6 n=(Nat.ble n 1048576&&true):=by kernel_rfl
 rw[this,Nat.ble_eq_true_of_le h];rfl
theorem aq.iI (x:aq):qX true 6 [x.v]:=λv hv=>by
 rw[List.mem_singleton]at hv;subst hv;rw[aq.aW];exact⟨rfl,rfl,⟨_,rfl⟩⟩
theorem aq.Ym (l:List aq):qX true 6 (l.map aq.v):=λv hv=>by
 obtain⟨x,_,rfl⟩:=List.mem_map.1 hv;exact x.iI x.v (by simp)
theorem aq.len (x:aq):x.v.cells.toList.length=6:=(x.iI x.v (by simp)).1
theorem Hq.KH (A:List Bx){l:List aq}{x:aq}{sl:Value}{kt:Value->T OB->Nat->Q}(hl:l.length<=1000000)(hG:Gw true 6 44 (l.map aq.v) sl G)(h:Hp nx0 H0 (s::(b,x.v.cells.toList,44)::(A++(G++B))) H nx)
 (hk:∀sl' G' H' nx',Gw true 6 44 ((l++[x]).map aq.v) sl' G'->Hp nx0 H0 (s::(A++(G'++B))) H' nx'->aF P pl X0 (kt sl' H' nx') nx0 H0 R):aF P pl X0 (aR (cO P H nx [42,42] (some [sl,j5 b 1 1])) kt) nx0 H0 R:=
 Hq.add A gh cj (Wm (by rw[List.length_map];omega)) (by rw[List.length_map];omega) x.iI hG h λsl' G' H' nx' hG' h'=>hk sl' G' H' nx' (by rw[List.map_append];exact hG') h'
theorem ND (c0 c1 c2 c3:Value)(z:List Value)(hz:bT P 41=some z):Instr.fill (λi=>some (i*4,4)) (bH z (1*4)) [(0,.agg ⟨[c0,c1,c2,c3]⟩)]=some ⟨[c0,c1,c2,c3]⟩:=by
 rw[cR]at hz;cases hz;kernel_rfl
theorem Hq.lh (cs:List Value)(hc:cs.length=4){kt:Value->T OB->Nat->Q}(h:Hp nx0 H0 (s::F) H nx)(hk:∀b H' nx',Hp nx0 H0 (s::(b,cs,41)::F) H' nx'->aF P pl X0 (kt (j5 b 1 1) H' nx') nx0 H0 R):aF P pl X0 (aR (aJ P H nx 39 1 (some [(0,.agg ⟨cs⟩)])) kt) nx0 H0 R:=
 match cs,hc with
 | [c0,c1,c2,c3],_=>Hq.row eX dj cR rfl (ND _ _ _ _ _ cR) h hk
theorem NF (c0 c1 c2 c3 d0 d1 d2 d3:Value)(z:List Value)(hz:bT P 41=some z):Instr.fill (λi=>some (i*4,4)) (bH z (2*4)) [(0,.agg ⟨[c0,c1,c2,c3]⟩),(1,.agg ⟨[d0,d1,d2,d3]⟩)]=some ⟨[c0,c1,c2,c3,d0,d1,d2,d3]⟩:=by
 rw[cR]at hz;cases hz;kernel_rfl
theorem Hq.NG (cs ds:List Value)(hc:cs.length=4)(hd:ds.length=4){kt:Value->T OB->Nat->Q}(h:Hp nx0 H0 (s::F) H nx)(hk:∀b H' nx',Hp nx0 H0 (s::(b,cs++ds,41)::F) H' nx'->aF P pl X0 (kt (j5 b 2 2) H' nx') nx0 H0 R):aF P pl X0 (aR (aJ P H nx 39 2 (some [(0,.agg ⟨cs⟩),(1,.agg ⟨ds⟩)])) kt) nx0 H0 R:=
 match cs,hc,ds,hd with
 | [c0,c1,c2,c3],_,[d0,d1,d2,d3],_=>Hq.row eX dj cR rfl (NF _ _ _ _ _ _ _ _ _ cR) h hk
theorem Wn {n:Nat}(h:n<=1048576):br P 41 4 n=true:=by
 have:br P 41 4 n=(Nat.ble n 1048576&&true):=by kernel_rfl
 rw[this,Nat.ble_eq_true_of_le h];rfl
theorem aB.iI (x:aB):qX true 4 [x.v]:=λv hv=>by
 rw[List.mem_singleton]at hv;subst hv;rw[aB.aW];exact⟨rfl,rfl,⟨_,rfl⟩⟩
theorem aB.len (x:aB):x.v.cells.toList.length=4:=(x.iI x.v (by simp)).1
theorem Hq.KI (A:List Bx){l:List aB}{x:aB}{sl:Value}{kt:Value->T OB->Nat->Q}(hl:l.length<=1000000)(hG:Gw true 4 41 (l.map aB.v) sl G)(h:Hp nx0 H0 (s::(b,x.v.cells.toList,41)::(A++(G++B))) H nx)
 (hk:∀sl' G' H' nx',Gw true 4 41 ((l++[x]).map aB.v) sl' G'->Hp nx0 H0 (s::(A++(G'++B))) H' nx'->aF P pl X0 (kt sl' H' nx') nx0 H0 R):aF P pl X0 (aR (cO P H nx [39,39] (some [sl,j5 b 1 1])) kt) nx0 H0 R:=
 Hq.add A eX dj (Wn (by rw[List.length_map];omega)) (by rw[List.length_map];omega) x.iI hG h λsl' G' H' nx' hG' h'=>hk sl' G' H' nx' (by rw[List.map_append];exact hG') h'
theorem NH (c0 c1 c2:Value)(z:List Value)(hz:bT P 84=some z):Instr.fill (λi=>some (i*3,3)) (bH z (1*3)) [(0,.agg ⟨[c0,c1,c2]⟩)]=some ⟨[c0,c1,c2]⟩:=by
 rw[dy]at hz;cases hz;kernel_rfl
theorem Hq.mP (cs:List Value)(hc:cs.length=3){kt:Value->T OB->Nat->Q}(h:Hp nx0 H0 (s::F) H nx)(hk:∀b H' nx',Hp nx0 H0 (s::(b,cs,84)::F) H' nx'->aF P pl X0 (kt (j5 b 1 1) H' nx') nx0 H0 R):aF P pl X0 (aR (aJ P H nx 50 1 (some [(0,.agg ⟨cs⟩)])) kt) nx0 H0 R:=
 match cs,hc with
 | [c0,c1,c2],_=>Hq.row gE ej dy rfl (NH _ _ _ _ dy) h hk
theorem NI (c0 c1 c2 d0 d1 d2:Value)(z:List Value)(hz:bT P 84=some z):Instr.fill (λi=>some (i*3,3)) (bH z (2*3)) [(0,.agg ⟨[c0,c1,c2]⟩),(1,.agg ⟨[d0,d1,d2]⟩)]=some ⟨[c0,c1,c2,d0,d1,d2]⟩:=by
 rw[dy]at hz;cases hz;kernel_rfl
theorem Hq.NJ (cs ds:List Value)(hc:cs.length=3)(hd:ds.length=3){kt:Value->T OB->Nat->Q}(h:Hp nx0 H0 (s::F) H nx)(hk:∀b H' nx',Hp nx0 H0 (s::(b,cs++ds,84)::F) H' nx'->aF P pl X0 (kt (j5 b 2 2) H' nx') nx0 H0 R):aF P pl X0 (aR (aJ P H nx 50 2 (some [(0,.agg ⟨cs⟩),(1,.agg ⟨ds⟩)])) kt) nx0 H0 R:=
 match cs,hc,ds,hd with
 | [c0,c1,c2],_,[d0,d1,d2],_=>Hq.row gE ej dy rfl (NI _ _ _ _ _ _ _ dy) h hk
theorem TP {n:Nat}(h:n<=1048576):br P 84 3 n=true:=by
 have:br P 84 3 n=(Nat.ble n 1048576&&true):=by kernel_rfl
 rw[this,Nat.ble_eq_true_of_le h];rfl
theorem aO.iI (x:aO):qX true 3 [x.v]:=λv hv=>by
 rw[List.mem_singleton]at hv;subst hv;rw[aO.aW];exact⟨rfl,rfl,⟨_,rfl⟩⟩
theorem aO.len (x:aO):x.v.cells.toList.length=3:=(x.iI x.v (by simp)).1
theorem Hq.Qq (A:List Bx){l:List aO}{x:aO}{sl:Value}{kt:Value->T OB->Nat->Q}(hl:l.length<=1000000)(hG:Gw true 3 84 (l.map aO.v) sl G)(h:Hp nx0 H0 (s::(b,x.v.cells.toList,84)::(A++(G++B))) H nx)
 (hk:∀sl' G' H' nx',Gw true 3 84 ((l++[x]).map aO.v) sl' G'->Hp nx0 H0 (s::(A++(G'++B))) H' nx'->aF P pl X0 (kt sl' H' nx') nx0 H0 R):aF P pl X0 (aR (cO P H nx [50,50] (some [sl,j5 b 1 1])) kt) nx0 H0 R:=
 Hq.add A gE ej (TP (by rw[List.length_map];omega)) (by rw[List.length_map];omega) x.iI hG h λsl' G' H' nx' hG' h'=>hk sl' G' H' nx' (by rw[List.map_append];exact hG') h'
theorem NK (c0 c1:Value)(z:List Value)(hz:bT P 52=some z):Instr.fill (λi=>some (i*2,2)) (bH z (1*2)) [(0,.agg ⟨[c0,c1]⟩)]=some ⟨[c0,c1]⟩:=by
 rw[jF]at hz;cases hz;kernel_rfl
theorem Hq.Fg (cs:List Value)(hc:cs.length=2){kt:Value->T OB->Nat->Q}(h:Hp nx0 H0 (s::F) H nx)(hk:∀b H' nx',Hp nx0 H0 (s::(b,cs,52)::F) H' nx'->aF P pl X0 (kt (j5 b 1 1) H' nx') nx0 H0 R):aF P pl X0 (aR (aJ P H nx 47 1 (some [(0,.agg ⟨cs⟩)])) kt) nx0 H0 R:=
 match cs,hc with
 | [c0,c1],_=>Hq.row ta mb jF rfl (NK _ _ _ jF) h hk
theorem Wo {n:Nat}(h:n<=1048576):br P 52 2 n=true:=by
 have:br P 52 2 n=(Nat.ble n 1048576&&true):=by kernel_rfl
 rw[this,Nat.ble_eq_true_of_le h];rfl
theorem cS.iI (x:cS):qX true 2 [x.v]:=λv hv=>by
 rw[List.mem_singleton]at hv;subst hv;rw[cS.aW];exact⟨rfl,rfl,⟨_,rfl⟩⟩
theorem cS.len (x:cS):x.v.cells.toList.length=2:=(x.iI x.v (by simp)).1
theorem Hq.Wp (A:List Bx){l:List cS}{x:cS}{sl:Value}{kt:Value->T OB->Nat->Q}(hl:l.length<=1000000)(hG:Gw true 2 52 (l.map cS.v) sl G)(h:Hp nx0 H0 (s::(b,x.v.cells.toList,52)::(A++(G++B))) H nx)
 (hk:∀sl' G' H' nx',Gw true 2 52 ((l++[x]).map cS.v) sl' G'->Hp nx0 H0 (s::(A++(G'++B))) H' nx'->aF P pl X0 (kt sl' H' nx') nx0 H0 R):aF P pl X0 (aR (cO P H nx [47,47] (some [sl,j5 b 1 1])) kt) nx0 H0 R:=
 Hq.add A ta mb (Wo (by rw[List.length_map];omega)) (by rw[List.length_map];omega) x.iI hG h λsl' G' H' nx' hG' h'=>hk sl' G' H' nx' (by rw[List.map_append];exact hG') h'
theorem NL (c0 c1 c2 c3 c4 c5 c6 c7:Value)(z:List Value)(hz:bT P 64=some z):Instr.fill (λi=>some (i*8,8)) (bH z (1*8)) [(0,.agg ⟨[c0,c1,c2,c3,c4,c5,c6,c7]⟩)]=some ⟨[c0,c1,c2,c3,c4,c5,c6,c7]⟩:=by
 rw[hU]at hz;cases hz;kernel_rfl
theorem Hq.Fh (cs:List Value)(hc:cs.length=8){kt:Value->T OB->Nat->Q}(h:Hp nx0 H0 (s::F) H nx)(hk:∀b H' nx',Hp nx0 H0 (s::(b,cs,64)::F) H' nx'->aF P pl X0 (kt (j5 b 1 1) H' nx') nx0 H0 R):aF P pl X0 (aR (aJ P H nx 45 1 (some [(0,.agg ⟨cs⟩)])) kt) nx0 H0 R:=
 match cs,hc with
 | [c0,c1,c2,c3,c4,c5,c6,c7],_=>Hq.row s9 mc hU rfl (NL _ _ _ _ _ _ _ _ _ hU) h hk
theorem Wr {n:Nat}(h:n<=1048576):br P 64 8 n=true:=by
 have:br P 64 8 n=(Nat.ble n 1048576&&true):=by kernel_rfl
 rw[this,Nat.ble_eq_true_of_le h];rfl
theorem Fn.iI (x:Fn):qX true 8 [x.v]:=λv hv=>by
 rw[List.mem_singleton]at hv;subst hv;rw[Fn.aW];exact⟨rfl,rfl,⟨_,rfl⟩⟩
theorem Fn.len (x:Fn):x.v.cells.toList.length=8:=(x.iI x.v (by simp)).1
theorem Hq.Ws (A:List Bx){l:List Fn}{x:Fn}{sl:Value}{kt:Value->T OB->Nat->Q}(hl:l.length<=1000000)(hG:Gw true 8 64 (l.map Fn.v) sl G)(h:Hp nx0 H0 (s::(b,x.v.cells.toList,64)::(A++(G++B))) H nx)
 (hk:∀sl' G' H' nx',Gw true 8 64 ((l++[x]).map Fn.v) sl' G'->Hp nx0 H0 (s::(A++(G'++B))) H' nx'->aF P pl X0 (kt sl' H' nx') nx0 H0 R):aF P pl X0 (aR (cO P H nx [45,45] (some [sl,j5 b 1 1])) kt) nx0 H0 R:=
 Hq.add A s9 mc (Wr (by rw[List.length_map];omega)) (by rw[List.length_map];omega) x.iI hG h λsl' G' H' nx' hG' h'=>hk sl' G' H' nx' (by rw[List.map_append];exact hG') h'
theorem NM (c0 c1 c2 c3 c4 c5 c6 c7 c8 c9 c10 c11 c12 c13 c14 c15 c16:Value)(z:List Value)(hz:bT P 54=some z):Instr.fill (λi=>some (i*17,17)) (bH z (1*17)) [(0,.agg ⟨[c0,c1,c2,c3,c4,c5,c6,c7,c8,c9,c10,c11,c12,c13,c14,c15,c16]⟩)]=some ⟨[c0,c1,c2,c3,c4,c5,c6,c7,c8,c9,c10,c11,c12,c13,c14,c15,c16]⟩:=by
 rw[dx]at hz;cases hz;kernel_rfl
theorem Hq.Fi (cs:List Value)(hc:cs.length=17){kt:Value->T OB->Nat->Q}(h:Hp nx0 H0 (s::F) H nx)(hk:∀b H' nx',Hp nx0 H0 (s::(b,cs,54)::F) H' nx'->aF P pl X0 (kt (j5 b 1 1) H' nx') nx0 H0 R):aF P pl X0 (aR (aJ P H nx 23 1 (some [(0,.agg ⟨cs⟩)])) kt) nx0 H0 R:=
 match cs,hc with
 | [c0,c1,c2,c3,c4,c5,c6,c7,c8,c9,c10,c11,c12,c13,c14,c15,c16],_=>Hq.row iA fJ dx rfl (NM _ _ _ _ _ _ _ _ _ _ _ _ _ _ _ _ _ _ dx) h hk
theorem Qr {n:Nat}(h:n<=1048576):br P 54 17 n=true:=by
 have:br P 54 17 n=(Nat.ble n 1048576&&true):=by kernel_rfl
 rw[this,Nat.ble_eq_true_of_le h];rfl
theorem aG.iI (x:aG):qX true 17 [x.v]:=λv hv=>by
 rw[List.mem_singleton]at hv;subst hv;rw[aG.aW];exact⟨rfl,rfl,⟨_,rfl⟩⟩
theorem aG.len (x:aG):x.v.cells.toList.length=17:=(x.iI x.v (by simp)).1
theorem Hq.Wu (A:List Bx){l:List aG}{x:aG}{sl:Value}{kt:Value->T OB->Nat->Q}(hl:l.length<=1000000)(hG:Gw true 17 54 (l.map aG.v) sl G)(h:Hp nx0 H0 (s::(b,x.v.cells.toList,54)::(A++(G++B))) H nx)
 (hk:∀sl' G' H' nx',Gw true 17 54 ((l++[x]).map aG.v) sl' G'->Hp nx0 H0 (s::(A++(G'++B))) H' nx'->aF P pl X0 (kt sl' H' nx') nx0 H0 R):aF P pl X0 (aR (cO P H nx [23,23] (some [sl,j5 b 1 1])) kt) nx0 H0 R:=
 Hq.add A iA fJ (Qr (by rw[List.length_map];omega)) (by rw[List.length_map];omega) x.iI hG h λsl' G' H' nx' hG' h'=>hk sl' G' H' nx' (by rw[List.map_append];exact hG') h'
theorem aq.fz (x:aq):iO 0 [(3,42),(4,39),(5,23)] x.v x.v []:=by
 rw[aq.aW];exact iO.of (fZ.cons rfl (dA.row gh) (fZ.cons rfl (dA.row eX) (fZ.cons rfl (dA.row iA) (fZ.nil))))
theorem aB.fz (x:aB):iO 0 [(3,39)] x.v x.v []:=by
 rw[aB.aW];exact iO.of (fZ.cons rfl (dA.row eX) (fZ.nil))
theorem aO.fz (x:aO):iO 0 [(2,50)] x.v x.v []:=by
 rw[aO.aW];exact iO.of (fZ.cons rfl (dA.row gE) (fZ.nil))
theorem cS.fz (x:cS):iO 0 [(1,50)] x.v x.v []:=by
 rw[cS.aW];exact iO.of (fZ.cons rfl (dA.row gE) (fZ.nil))
theorem Fn.fz (x:Fn):iO 0 [(1,39),(5,42),(6,39),(7,23)] x.v x.v []:=by
 rw[Fn.aW];exact iO.of (fZ.cons rfl (dA.row eX) (fZ.cons rfl (dA.row gh) (fZ.cons rfl (dA.row eX) (fZ.cons rfl (dA.row iA) (fZ.nil)))))
theorem aG.fz (x:aG):iO 0 [(4,39),(8,42),(9,39),(10,23),(11,45),(12,46),(14,47),(16,50)] x.v x.v []:=by
 rw[aG.aW];exact iO.of (fZ.cons rfl (dA.row eX) (fZ.cons rfl (dA.row gh) (fZ.cons rfl (dA.row eX) (fZ.cons rfl (dA.row iA) (fZ.cons rfl (dA.row s9) (fZ.cons rfl (dA.row s_) (fZ.cons rfl (dA.row ta) (fZ.cons rfl (dA.row gE) (fZ.nil)))))))))
theorem Gw.Wv {l:List aq}{sl:Value}(hG:Gw true 6 44 (l.map aq.v) sl G):dA 1 42 sl (aM 6 (l.map aq.v)) G:=
 dA.gw gh cj dN rfl gI hG (km.id λv hv=>by obtain⟨x,_,rfl⟩:=List.mem_map.1 hv;exact x.fz) (λu hu=>by obtain⟨x,_,rfl⟩:=List.mem_map.1 hu;exact x.len) id
theorem Gw.TQ {l:List aB}{sl:Value}(hG:Gw true 4 41 (l.map aB.v) sl G):dA 1 39 sl (aM 4 (l.map aB.v)) G:=
 dA.gw eX dj ft rfl jK hG (km.id λv hv=>by obtain⟨x,_,rfl⟩:=List.mem_map.1 hv;exact x.fz) (λu hu=>by obtain⟨x,_,rfl⟩:=List.mem_map.1 hu;exact x.len) id
theorem Gw.Ww {l:List aO}{sl:Value}(hG:Gw true 3 84 (l.map aO.v) sl G):dA 1 50 sl (aM 3 (l.map aO.v)) G:=
 dA.gw gE ej nP rfl qg hG (km.id λv hv=>by obtain⟨x,_,rfl⟩:=List.mem_map.1 hv;exact x.fz) (λu hu=>by obtain⟨x,_,rfl⟩:=List.mem_map.1 hu;exact x.len) id
theorem Gw.Yn {l:List cS}{sl:Value}(hG:Gw true 2 52 (l.map cS.v) sl G):dA 1 47 sl (aM 2 (l.map cS.v)) G:=
 dA.gw ta mb tb rfl Kn hG (km.id λv hv=>by obtain⟨x,_,rfl⟩:=List.mem_map.1 hv;exact x.fz) (λu hu=>by obtain⟨x,_,rfl⟩:=List.mem_map.1 hu;exact x.len) id
theorem Gw.Yo {l:List Fn}{sl:Value}(hG:Gw true 8 64 (l.map Fn.v) sl G):dA 1 45 sl (aM 8 (l.map Fn.v)) G:=
 dA.gw s9 mc BN rfl Qn hG (km.id λv hv=>by obtain⟨x,_,rfl⟩:=List.mem_map.1 hv;exact x.fz) (λu hu=>by obtain⟨x,_,rfl⟩:=List.mem_map.1 hu;exact x.len) id
theorem Gw.Yp {l:List aG}{sl:Value}(hG:Gw true 17 54 (l.map aG.v) sl G):dA 1 23 sl (aM 17 (l.map aG.v)) G:=
 dA.gw iA fJ k_ rfl qN hG (km.id λv hv=>by obtain⟨x,_,rfl⟩:=List.mem_map.1 hv;exact x.fz) (λu hu=>by obtain⟨x,_,rfl⟩:=List.mem_map.1 hu;exact x.len) id
theorem iu {cs:List Value}(h:cA H b cs 44)(hc:cs.length=6):ai P H 44 (some (ptr b))=some (.agg ⟨cs⟩):=by
 rw[bU h dN cj (by omega),List.drop_zero,<- hc,List.take_length]
theorem vq {cs:List Value}(h:cA H b cs 41)(hc:cs.length=4):ai P H 41 (some (ptr b))=some (.agg ⟨cs⟩):=by
 rw[bU h ft dj (by omega),List.drop_zero,<- hc,List.take_length]
theorem nV {cs:List Value}(h:cA H b cs 84)(hc:cs.length=3):ai P H 84 (some (ptr b))=some (.agg ⟨cs⟩):=by
 rw[bU h nP ej (by omega),List.drop_zero,<- hc,List.take_length]
theorem Qs {cs:List Value}(h:cA H b cs 52)(hc:cs.length=2):ai P H 52 (some (ptr b))=some (.agg ⟨cs⟩):=by
 rw[bU h tb mb (by omega),List.drop_zero,<- hc,List.take_length]
theorem Wx {cs:List Value}(h:cA H b cs 49)(hc:cs.length=3):ai P H 49 (some (ptr b))=some (.agg ⟨cs⟩):=by
 rw[bU h IU PJ (by omega),List.drop_zero,<- hc,List.take_length]
theorem Wy {cs:List Value}(h:cA H b cs 64)(hc:cs.length=8):ai P H 64 (some (ptr b))=some (.agg ⟨cs⟩):=by
 rw[bU h BN mc (by omega),List.drop_zero,<- hc,List.take_length]
theorem Qt {cs:List Value}(h:cA H b cs 54)(hc:cs.length=17):ai P H 54 (some (ptr b))=some (.agg ⟨cs⟩):=by
 rw[bU h k_ fJ (by omega),List.drop_zero,<- hc,List.take_length]
theorem jP (k:Int)(a:Option Addr)(n c:Nat):a9 P 44 (some [(0,i64 k),(3,.slice a n c)])=some (.agg ⟨[i64 k,i64 0,au [],.slice a n c,aw,aw]⟩):=aX bI (by kernel_rfl)
theorem yE (k:Int)(w:List UInt8)(a:Option Addr)(n c:Nat):a9 P 44 (some [(0,i64 k),(2,au w),(3,.slice a n c)])=some (.agg ⟨[i64 k,i64 0,au w,.slice a n c,aw,aw]⟩):=aX bI (by kernel_rfl)
theorem NN (k n:Int):a9 P 44 (some [(0,i64 k),(1,i64 n)])=some (.agg ⟨[i64 k,i64 n,au [],aw,aw,aw]⟩):=aX bI (by kernel_rfl)
theorem yF (k:Int)(w:List UInt8):a9 P 44 (some [(0,i64 k),(2,au w)])=some (.agg ⟨[i64 k,i64 0,au w,aw,aw,aw]⟩):=aX bI (by kernel_rfl)
theorem Fj (k:Int)(a:Option Addr)(n c:Nat):a9 P 41 (some [(0,i64 k),(3,.slice a n c)])=some (.agg ⟨[i64 k,i64 0,au [],.slice a n c]⟩):=aX cR (by kernel_rfl)
theorem NO (k:Int)(w:List UInt8)(a:Option Addr)(n c:Nat):a9 P 41 (some [(0,i64 k),(2,au w),(3,.slice a n c)])=some (.agg ⟨[i64 k,i64 0,au w,.slice a n c]⟩):=aX cR (by kernel_rfl)
theorem Fk (k n:Int):a9 P 41 (some [(0,i64 k),(1,i64 n)])=some (.agg ⟨[i64 k,i64 n,au [],aw]⟩):=aX cR (by kernel_rfl)
theorem rD (k:Int)(w:List UInt8):a9 P 41 (some [(0,i64 k),(2,au w)])=some (.agg ⟨[i64 k,i64 0,au w,aw]⟩):=aX cR (by kernel_rfl)
theorem AE (k:Int)(w:List UInt8):a9 P 84 (some [(0,i64 k),(1,au w)])=some (.agg ⟨[i64 k,au w,aw]⟩):=aX dy (by kernel_rfl)
theorem AF (k:Int)(a:Option Addr)(n c:Nat):a9 P 84 (some [(0,i64 k),(2,.slice a n c)])=some (.agg ⟨[i64 k,au [],.slice a n c]⟩):=aX dy (by kernel_rfl)
theorem AG (k:Int)(w:List UInt8)(a:Option Addr)(n c:Nat):a9 P 84 (some [(0,i64 k),(1,au w),(2,.slice a n c)])=some (.agg ⟨[i64 k,au w,.slice a n c]⟩):=aX dy (by kernel_rfl)
theorem NP (w:List UInt8):a9 P 52 (some [(0,au w)])=some (.agg ⟨[au w,aw]⟩):=aX jF (by kernel_rfl)
theorem NQ (w:List UInt8)(a:Option Addr)(n c:Nat):a9 P 64 (some [(0,au w),(1,.slice a n c)])=some (.agg ⟨[au w,.slice a n c,i64 0,i64 0,au [],aw,aw,aw]⟩):=aX hU (by kernel_rfl)
theorem NR (k:Int)(a:Option Addr)(n c:Nat):a9 P 54 (some [(0,i64 k),(3,.slice a n c)])=some (.agg ⟨[i64 k,i64 0,i64 0,au [],aw,i64 0,i64 0,au [],aw,aw,aw,.slice a n c,aw,au [],aw,au [],aw]⟩):=aX dx (by kernel_rfl)
theorem NS (k:Int)(p0 p1 p2 p3 c0 c1 c2 c3 c4 c5:Value):a9 P 54 (some [(0,i64 k),(1,.agg ⟨[p0,p1,p2,p3]⟩),(2,.agg ⟨[c0,c1,c2,c3,c4,c5]⟩)])=some (.agg ⟨[i64 k,p0,p1,p2,p3,c0,c1,c2,c3,c4,c5,aw,aw,au [],aw,au [],aw]⟩):=aX dx (by kernel_rfl)
theorem NT (k:Int)(c0 c1 c2 c3 c4 c5:Value):a9 P 54 (some [(0,i64 k),(2,.agg ⟨[c0,c1,c2,c3,c4,c5]⟩)])=some (.agg ⟨[i64 k,i64 0,i64 0,au [],aw,c0,c1,c2,c3,c4,c5,aw,aw,au [],aw,au [],aw]⟩):=aX dx (by kernel_rfl)
theorem NU (k:Int)(c0 c1 c2:Value):a9 P 54 (some [(0,i64 k),(4,.agg ⟨[c0,c1,c2]⟩)])=some (.agg ⟨[i64 k,i64 0,i64 0,au [],aw,i64 0,i64 0,au [],aw,aw,aw,aw,c0,c1,c2,au [],aw]⟩):=aX dx (by kernel_rfl)
theorem NV (k:Int)(c0 c1:Value):a9 P 54 (some [(0,i64 k),(5,.agg ⟨[c0,c1]⟩)])=some (.agg ⟨[i64 k,i64 0,i64 0,au [],aw,i64 0,i64 0,au [],aw,aw,aw,aw,aw,au [],aw,c0,c1]⟩):=aX dx (by kernel_rfl)
end
section
variable {nx0 nx nx' bp k:Nat}{H0 H H':T OB}{F A B G G':List Bx}{s:Bx}{R:Go.Ev.Out->T OB->Nat->Prop}{b:Nat}{l:List Value}{e t:TypeId}{L:List Tok}
theorem fZ.one {n:Nat}{p:Nat×TypeId}{cs:List Value}{v u:Value}(hc:cs[p.1]? = some v)(h1:dA n p.2 v u G):fZ n [p] cs (cs.set p.1 u) G:=by
 have:=fZ.cons hc h1 (fZ.nil (n:=n));rwa[List.append_nil]at this
theorem km.one {n:Nat}{offs:List (Nat×TypeId)}{v u:Value}(h1:iO n offs v u G):km n offs [v] [u] G:=by
 have:=km.cons h1 (km.nil (n:=n) (offs:=offs));rwa[List.append_nil]at this
theorem km.two {n:Nat}{offs:List (Nat×TypeId)}{v u w:Value}(h1:iO n offs v u G)(h2:iO 0 offs w w []):km n offs [v,w] [u,w] G:=by
 have:=km.cons h1 (km.one (h2.mono (Nat.zero_le n)));rwa[List.append_nil]at this
theorem jk (cs:List Value):cY [.agg ⟨cs⟩]=cs:=List.append_nil cs
theorem nW (cs ds:List Value):cY [.agg ⟨cs⟩,.agg ⟨ds⟩]=cs++ds:=by show cs++(ds++[])=_;rw[List.append_nil]
theorem Gw.q_ {a:Bool}{sz:Nat}{cs:List Value}(h:qX a sz [.agg ⟨cs⟩]):Gw a sz e [.agg ⟨cs⟩] (j5 b 1 1) [(b,cs,e)]:=by
 have:=Gw.one (b:=b) (e:=e) (n:=1) h rfl (by decide);rwa[jk]at this
structure oY (n:Nat)(cs:List Value)(a:aO)(G:List Bx):Prop where
 len:cs.length=3
 one:cs.all aj=true
 fz:iO n [(2,50)] (.agg ⟨cs⟩) a.v G
theorem oY.of (a:aO):oY 0 a.cs a []:=⟨a.len,(a.iI a.v (by simp)).2.1,a.fz⟩
theorem oY.iI {n:Nat}{cs:List Value}{a:aO}(h:oY n cs a G):qX true 3 [.agg ⟨cs⟩]:=λv hv=>by
 rw[List.mem_singleton]at hv;subst hv;exact⟨h.len,h.one,⟨_,rfl⟩⟩
theorem oY.row {k:Int}{w:List UInt8}{sl:Value}{l:List aO}{n:Nat}(h:dA n 50 sl (fu l) G)(ho:aj sl=true):oY n [i64 k,au w,sl] (.mk k w l) G:=⟨rfl,by simp[ho],by
 rw[aO.aW];exact iO.of (fZ.one (p:=(2,50)) (cs:=[i64 k,au w,sl]) rfl h)⟩
theorem fL {a:Bool}{sz:Nat}{vs:List Value}{sl:Value}(h:Gw a sz e vs sl G):aj sl=true:=by
 rcases h.2 with⟨_,rfl,_⟩ | ⟨b,c,rfl,_⟩<;>rfl
theorem oY.gw {k:Int}{w:List UInt8}{sl:Value}{l:List aO}(h:Gw true 3 84 (l.map aO.v) sl G):oY 1 [i64 k,au w,sl] (.mk k w l) G:=oY.row h.Ww (fL h)
theorem oY.b1 {k:Int}{w:List UInt8}{n:Nat}{cs:List Value}{a:aO}(h:oY n cs a G):oY (n+1) [i64 k,au w,j5 b 1 1] (.mk k w [a]) ((b,cs,84)::G):=by
 have:=dA.er (t:=50) (b:=b) gE ej nP rfl qg h.iI (.inr rfl) (by simp) (km.one h.fz) (λu hu=>by rw[List.mem_singleton]at hu;subst hu;exact a.len);rw[jk cs]at this;exact oY.row this rfl
theorem oY.b2 {k:Int}{w:List UInt8}{n:Nat}{cs:List Value}{a c:aO}(h:oY n cs a G):oY (n+1) [i64 k,au w,j5 b 2 2] (.mk k w [a,c]) ((b,cs++c.cs,84)::G):=by
 have:=dA.er (t:=50) (b:=b) (vs:=[.agg ⟨cs⟩,c.v]) gE ej nP rfl qg (λv hv=>by
  rcases List.mem_cons.1 hv with rfl | hv
  . exact h.iI _ (by simp)
  . exact c.iI v hv) (.inr rfl) (by simp) (km.two h.fz c.fz) (λu hu=>by
  rcases List.mem_cons.1 hu with rfl | hu
  . exact a.len
  . rw[List.mem_singleton]at hu;subst hu;exact c.len)
 rw[show cY [Value.agg ⟨cs⟩,c.v]=cs++c.cs from nW cs c.cs]at this;exact oY.row this rfl
theorem jl {α β γ:Type}(x:PR α)(f:α->Nat->PR β)(g:β->Nat->PR γ):bd (bd x f) g=bd x λa k=>bd (f a k) g:=by
 cases x with
 | none=>rfl
 | some r=>cases r<;>rfl
theorem fy {α β:Type}(a:α)(k:Nat)(f:α->Nat->PR β):bd (yes a k) f=f a k:=rfl
def NW (L:List Tok)(T:Nat->PR aO)(a:aO)(k:Nat):PR aO:=if bP L k [45,62]=true then bd (T (k+1)) λb k=>yes (.mk 3 [] [a,b]) k else yes a k
theorem Qu {T:Nat->PR aO}(hT:bn 79 L aO.v T)(hL:L.length<=100000){n:Nat}{cs z:List Value}{a:aO}{x0 x2:Nat}{o:kn aO}(hv:oY n cs a G)(hn:n<=99990)(hz:z.length=3)(ho:NW L T a k=some o)
 (h:Hp nx0 H0 (cQ bp L k::(x2,cs,84)::(x0,z,84)::(G++F)) H nx):aF P pl X0 (aI P pl (BW (ptr bp) (ptr x0) (ptr x2) H nx)) nx0 H0 (End nx0 H0 bp L F aO.v o):=by
 rw[JB];unfold NW at ho;refine Sq.take hL h (λhi H1 av h1=> ?_) (λhi H1 av h1=> ?_)
 . rw[if_pos hi]at ho;simp only[ab,nV (h1.at_ 1 rfl) hv.len];refine Sq.call hT rfl h1 ho λc k' H2 nx2 _ ho2 h2=> ?_;simp only[ab,nV (h2.at_ 1 rfl) hv.len,bf];refine Hq.NJ cs c.cs hv.len c.len h2 λx H3 nx3 h3=> ?_;simp only[ab,AF];have h4:Hp nx0 H0 (cQ bp L k'::(x0,z,84)::((x,cs++c.cs,84)::G++F)) H3 nx3:=(Hp.mv [_,_] h3).sub (by simp);exact Hq.fin h4 ej nP qg hz rfl rfl (oY.b2 hv).fz (by omega) λH5 nx5 h5=>End.ret ho2 rfl h5
 . rw[if_neg (by rw[hi];simp)]at ho;simp only[ab,nV (h1.at_ 1 rfl) hv.len];have h4:Hp nx0 H0 (cQ bp L k::(x0,z,84)::(G++F)) H1 av:=(Hp.mv [_] h1).sub (by simp);exact Hq.fin h4 ej nP qg hz hv.len hv.one hv.fz (by omega) λH5 nx5 h5=>End.ret ho rfl h5
theorem Qv {TT:Nat->PR aO}(hT:bn 79 L aO.v TT)(hL:L.length<=100000):∀(m:Nat),(∀j,j<m->bn 90 L aO.v (ps L j).post)->∀(l:List aO) (k:Nat) (sl:Value) (G:List Bx) (o:kn aO) (z:List Value) (x0 x2 nx:Nat) (H:T OB),l.length+m<=90010->Gw true 3 84 (l.map aO.v) sl G->z.length=3->
 bd ((ps L m).ff l k) (λl k=>NW L TT (.mk 4 [] l) k)=some o->Hp nx0 H0 (cQ bp L k::(x2,[i64 4,au [],sl],84)::(x0,z,84)::(G++F)) H nx->
 aF P pl X0 (.jump (yb (ptr bp) (ptr x0) (ptr x2) H nx)) nx0 H0 (End nx0 H0 bp L F aO.v o)
 | 0,_,l,k,sl,G,o,z,x0,x2,nx,H,hm,hG,hz,ho,h=>by cases ho
 | m+1,hp,l,k,sl,G,o,z,x0,x2,nx,H,hm,hG,hz,ho,h=>by
   have ho:bd (mo L (ps L m) l k) (λl k=>NW L TT (.mk 4 [] l) k)=some o:=ho;unfold mo at ho;refine Wq.jmp (SI ..) (λ_=>rfl) ?_;refine Sq.take hL h (λhi H1 av h1=> ?_) (λhi H1 av h1=> ?_)
   . rw[if_pos hi,jl]at ho;simp only[ab,ah (off:=2) (u:=sl) (h1.at_ 1 rfl) BM rfl];refine Sq.call (hp m (Nat.lt_succ_self m)) rfl h1 ho λc k' H2 nx2 _ ho2 h2=> ?_;simp only[ab,ah (off:=2) (u:=sl) (h2.at_ 1 rfl) BM rfl,bf];refine Hq.mP c.cs c.len h2 λx H3 nx3 h3=> ?_;simp only[ab,ah (off:=2) (u:=sl) (h3.at_ 2 rfl) BM rfl,bf];refine Hq.Qq [_,_] (x:=c) (by omega) hG h3 λsl' G' H4 nx4 hG' h4=> ?_;refine Hq.put [_] h4 PK (by rcases hG'.2 with⟨_,rfl,_⟩ | ⟨b,c,rfl,_⟩<;>rfl) (fL hG') (by simp) rfl λH5 h5=> ?_;exact Qv hT hL m (λj hj=>hp j (by omega)) (l++[c]) k' sl' G' o z x0 x2 nx4 H5 (by rw[List.length_append];simp;omega) hG' hz ho2 h5
   . rw[if_neg (by rw[hi];simp)]at ho;have:=Qu hT hL (oY.gw (k:=4) (w:=[]) hG) (by omega) hz ho h1;rw[JB]at this;exact this
theorem Mh (a b:Value):bk (some (.tuple ⟨[a,b]⟩)) 0=some a:=rfl
theorem Mi (a b:Value):bk (some (.tuple ⟨[a,b]⟩)) 1=some b:=rfl
theorem Hq.set (A:List Bx){sz:Nat}{cs:List Value}{kt:Value->Go.Ev.T OB->Nat->Q}(h:Hp nx0 H0 (A++(b,l,e)::B) H nx)(hs:aN P t=some sz)(hl:l.length=sz)(hc:cs.length=sz)(h1:cs.all aj=true)
 (hk:∀H',Hp nx0 H0 (A++(b,cs,e)::B) H' nx->aF P pl X0 (kt undef H' nx) nx0 H0 R):aF P pl X0 (aR (cI P H nx t (some (ptr b)) (some (.agg ⟨cs⟩))) kt) nx0 H0 R:=
 Hq.store A h hs (by omega) hc h1 λH' h'=>hk H' (by
  rw[show jD l (Value.agg ⟨cs⟩).cells.toList 0=cs from vo (by show cs.length=_;omega)]at h';exact h')
theorem Hp.swap' {x y:Bx}(h:Hp nx0 H0 (s::x::y::F) H nx):Hp nx0 H0 (s::y::x::F) H nx:=h.perm (List.Perm.cons _ (List.Perm.swap _ _ _))
theorem Hp.yG {x y z:Bx}(h:Hp nx0 H0 (s::x::y::z::F) H nx):Hp nx0 H0 (s::y::z::x::F) H nx:=h.perm (List.Perm.cons _ ((List.Perm.swap _ _ _).trans (List.Perm.cons _ (List.Perm.swap _ _ _))))
theorem Wz (hL:L.length<=100000){n:Nat}(hn:n<=90000)(hpost:∀j,j<=n->bn 90 L aO.v (ps L j).post)(htyp:bn 79 L aO.v (ps L n).gJ):bn 79 L aO.v (ps L (n+1)).gJ:=by
 intro nx0 nx H0 H bp F k o ho h;have ho:lJ L (ps L n) k=some o:=ho;unfold lJ kq at ho;rw[jl]at ho;rw[q79];refine Hq.alloc dy h λx0 H1 av h1=> ?_;refine Sq.call (hpost n (Nat.le_refl n)) rfl h1 ho λa k' H2 nx2 _ ho h2=> ?_;have ha:=oY.of a;refine Hq.alloc dy h2 λx2 H3 nx3 h3=> ?_;refine Hq.set [_] h3 ej rfl ha.len ha.one λH4 h4=> ?_
 refine Sq.is h4 λH5 nx5 h5=> ?_;cases hi:bP L k' [42]with
 | true=>
   rw[hi,if_pos rfl,jl]at ho;simp only[ab,nV (h5.at_ 1 rfl) a.len];refine Hq.mP a.cs a.len h5 λx H6 nx6 h6=> ?_;simp only[ab,AF];refine Hq.set [_,_] h6 ej ha.len rfl rfl λH7 h7=> ?_
   exact Qv htyp hL (n+1) (λj hj=>hpost j (by omega)) [a] k' (j5 x 1 1) [(x,a.cs,84)] o _ x0 x2 nx6 H7 (show 1+(n+1)<=90010 by omega) (Gw.q_ a.iI) rfl ho (Hp.yG h7)
 | false=>
   rw[hi,if_neg (by simp),fy]at ho;simp only[ab];exact Wq.jump (λ_=>rfl) (Qu htyp hL ha (by omega) rfl ho h5)
theorem KJ (hL:L.length<=100000):∀(m:Nat) (a:aO) (k n:Nat) (cs z:List Value) (G:List Bx) (o:kn aO) (x0 x1 nx:Nat) (H:Go.Ev.T OB),n+m<=90010->oY n cs a G->z.length=3->(ps L m).dZ a k=some o->Hp nx0 H0 (cQ bp L k::(x1,cs,84)::(x0,z,84)::(G++F)) H nx->
 aF P pl X0 (aI P pl (qa (ptr bp) (ptr x0) (ptr x1) H nx)) nx0 H0 (End nx0 H0 bp L F aO.v o)
 | 0,a,k,n,cs,z,G,o,x0,x1,nx,H,hm,hv,hz,ho,h=>by cases ho
 | m+1,a,k,n,cs,z,G,o,x0,x1,nx,H,hm,hv,hz,ho,h=>by
   have ho:gK L (ps L m) a k=some o:=ho;unfold gK at ho;rw[BY];refine Sq.Yk hL h (λhi H1 av h1=> ?_) (λhi H1 av h1=> ?_)
   . rw[if_pos hi]at ho;simp only[ab,Mh,Mi];refine Wq.jmp (JC ..) (λ_=>rfl) ?_;simp only[ab,nV (h1.at_ 1 rfl) hv.len];refine Hq.mP cs hv.len h1 λx H2 nx2 h2=> ?_;simp only[ab,AG];refine Hq.set [_,_] h2 ej hv.len rfl rfl λH3 h3=> ?_
     have:=KJ hL m (.mk 2 (tk L k).s [a]) (k+1) (n+1) _ z ((x,cs,84)::G) o x0 x1 nx2 H3 (by omega) (oY.b1 (k:=2) (w:=(tk L k).s) hv) hz ho (Hp.yG h3);rw[BY]at this;exact this
   . rw[if_neg (by rw[hi];simp)]at ho;simp only[ab,Mh,Mi];refine Wq.jmp (JC ..) (λ_=>rfl) ?_;simp only[ab,nV (h1.at_ 1 rfl) hv.len];have h4:Hp nx0 H0 (cQ bp L k::(x0,z,84)::(G++F)) H1 av:=(Hp.mv [_] h1).sub (by simp);exact Hq.fin h4 ej nP qg hz hv.len hv.one hv.fz (by omega) λH5 nx5 h5=>End.ret ho rfl h5
theorem Ci (hL:L.length<=100000){m:Nat}{a:aO}{k n:Nat}{cs z:List Value}{G:List Bx}{o:kn aO}{x0 x1 nx:Nat}{H:Go.Ev.T OB}(hm:n+m<=90010)(hv:oY n cs a G)(hz:z.length=3)(ho:(ps L m).dZ a k=some o)(h:Hp nx0 H0 (cQ bp L k::(x1,cs,84)::(x0,z,84)::(G++F)) H nx):
 aF P pl X0 (.jump (qa (ptr bp) (ptr x0) (ptr x1) H nx)) nx0 H0 (End nx0 H0 bp L F aO.v o):=Wq.jump (λ_=>rfl) (KJ hL m a k n cs z G o x0 x1 nx H hm hv hz ho h)
theorem Qw (hL:L.length<=100000){M:Nat}(hM:M<=90005):∀(m:Nat),(∀j,j<m->bn 79 L aO.v (ps L j).gJ)->∀(l:List aO) (k:Nat) (sl:Value) (G:List Bx) (o:kn aO) (y z:List Value) (x0 x1 nx:Nat) (H:Go.Ev.T OB),l.length+m<=90010->Gw true 3 84 (l.map aO.v) sl G->y.length=3->z.length=3->
 bd ((ps L m).rC l k) (λl k=>aQ L [41] k λk=>bd (if eZ L k=true then yes (aO.mk 2 (tk L k).s l) (k+1)else jL L k) λa k=>(ps L M).dZ a k)=some o->Hp nx0 H0 (cQ bp L k::(x1,y,84)::(x0,z,84)::(G++F)) H nx->
 aF P pl X0 (.jump (ye (ptr bp) (ptr x0) (ptr x1) sl H nx)) nx0 H0 (End nx0 H0 bp L F aO.v o)
 | 0,_,l,k,sl,G,o,y,z,x0,x1,nx,H,hm,hG,hy,hz,ho,h=>by cases ho
 | m+1,hp,l,k,sl,G,o,y,z,x0,x1,nx,H,hm,hG,hy,hz,ho,h=>by
   have ho:bd (oX L (ps L m) l k) (λl k=>aQ L [41] k λk=>bd (if eZ L k=true then yes (aO.mk 2 (tk L k).s l) (k+1)else jL L k) λa k=>(ps L M).dZ a k)=some o:=ho;unfold oX at ho;refine Wq.jmp (SN ..) (λ_=>rfl) ?_;refine Sq.take hL h (λhi H1 av h1=> ?_) (λhi H1 av h1=> ?_)
   . rw[if_pos hi,jl]at ho;simp only[ab];refine Sq.call (hp m (Nat.lt_succ_self m)) rfl h1 ho λc k' H2 nx2 _ ho2 h2=> ?_;refine Hq.mP c.cs c.len h2 λx H3 nx3 h3=> ?_;refine Hq.Qq [_,_] (x:=c) (by omega) hG h3 λsl' G' H4 nx4 hG' h4=> ?_;exact Qw hL hM m (λj hj=>hp j (by omega)) (l++[c]) k' sl' G' o y z x0 x1 nx4 H4 (by rw[List.length_append];simp;omega) hG' hy hz ho2 h4
   . rw[if_neg (by rw[hi];simp),fy]at ho;simp only[ab];refine Sq.lO hL h1 ho λH2 nx2 _ ho h2=> ?_;refine Sq.Yk hL h2 (λhi H3 nx3 h3=> ?_) (λhi H3 nx3 h3=> ?_)
     . rw[if_pos hi,fy]at ho;simp only[ab,Mh,Mi];refine Wq.jmp (SO ..) (λ_=>rfl) ?_;have hb:a9 P 84 (some [(0,i64 2),(1,au (tk L (k+1)).s),(2,sl)])=some (.agg ⟨[i64 2,au (tk L (k+1)).s,sl]⟩):=by
        rcases hG.2 with⟨_,rfl,_⟩ | ⟨b,c,rfl,_⟩<;>exact AG ..
       simp only[ab,hb];refine Hq.set [_] h3 ej hy rfl (by simp[fL hG]) λH4 h4=> ?_
       have:=KJ hL M _ _ 1 _ z G o x0 x1 nx3 H4 (by omega) (oY.gw (k:=2) (w:=(tk L (k+1)).s) hG) hz ho h4;rw[BY]at this;exact this
     . rw[if_neg (by rw[hi];simp)]at ho;simp only[ab,Mh,Mi];exact Sq.fail (α:=aO) (β:=aO) (o:=o) (by cases ho;rfl) h3
theorem WA (hL:L.length<=100000){n:Nat}(hn:n<=90000)(htyp:∀j,j<=n->bn 79 L aO.v (ps L j).gJ):bn 90 L aO.v (ps L (n+1)).post:=by
 intro nx0 nx H0 H bp F k o ho h;have ho:jM L (ps L n) k=some o:=ho;unfold jM jj at ho;have hnm:∀a k,gK L (ps L n) a k=(ps L (n+1)).dZ a k:=λ_ _=>rfl;rw[q90];refine Hq.alloc dy h λx0 H1 av h1=> ?_;refine Hq.alloc dy h1 λx1 H2 nx2 h2=> ?_;refine Sq.now h2 λH3 nx3 h3=> ?_;refine Sq.Ng h3 λH4 nx4 h4=> ?_;simp only[ab];refine Wq.ite (λhi=> ?_) (λhi=> ?_)
 . rw[if_pos hi,fy]at ho;simp only[ab,pk h4,fP hL (gQ (show(tk L k).k≠0 by omega))];refine eh h4 λH5 h5=> ?_;simp only[ab,AE];refine Hq.set [_] h5 ej rfl rfl rfl λH6 h6=> ?_
   exact Ci hL (m:=n+1) (n:=0) (G:=[]) (by omega) (oY.row (k:=1) (w:=(tk L k).s) (l:=[]) (dA.nil gE ej) rfl) rfl ho h6
 . rw[if_neg hi]at ho;refine Sq.Yk hL h4 (λht H5 nx5 h5=> ?_) (λht H5 nx5 h5=> ?_)
   . rw[if_pos ht,fy]at ho;simp only[ab,Mh,Mi,AE];refine Hq.set [_] h5 ej rfl rfl rfl λH6 h6=> ?_
     exact Ci hL (m:=n+1) (n:=0) (G:=[]) (by omega) (oY.row (k:=2) (w:=(tk L k).s) (l:=[]) (dA.nil gE ej) rfl) rfl ho h6
   . rw[if_neg (by rw[ht];simp)]at ho;simp only[ab,Mh,Mi];have ho:aQ L [40] k (λk=>bd (bd ((ps L n).gJ k) λa k=>if bP L k [44]=true then bd (oX L (ps L n) [a] k) λl k=>aQ L [41] k λk=>if eZ L k=true then yes (aO.mk 2 (tk L k).s l) (k+1)else jL L k else aQ L [41] k λk=>yes a k) λa k=>gK L (ps L n) a k)=some o:=by
      rw[<- ho];unfold aQ;split<;>rfl
     refine Sq.lO hL h5 ho λH6 nx6 _ ho h6=> ?_;rw[jl]at ho;refine Sq.call (htyp n (Nat.le_refl n)) rfl h6 ho λa k' H7 nx7 _ ho h7=> ?_;refine Hq.set [_] h7 ej rfl a.len (oY.of a).one λH8 h8=> ?_
     refine Sq.is h8 λH9 nx9 h9=> ?_;cases hc:bP L k' [44]with
     | true=>
       rw[hc,if_pos rfl,jl]at ho;simp only[ab,nV (h9.at_ 1 rfl) a.len];refine Hq.mP a.cs a.len h9 λx H10 nx10 h10=> ?_;refine Qw hL (M:=n+1) (by omega) (n+1) (λj hj=>htyp j (by omega)) [a] k' (j5 x 1 1) [(x,a.cs,84)] o _ _ x0 x1 nx10 H10 (show 1+(n+1)<=90010 by omega) (Gw.q_ a.iI) a.len rfl ?_ (Hp.yG h10);rw[<- ho];show bd (oX L (ps L n) [a] k') _=bd (oX L (ps L n) [a] k') _;congr 1;funext l k;unfold aQ;split<;>rfl
     | false=>
       rw[hc,if_neg (by simp)]at ho;simp only[ab];have ho:aQ L [41] k' (λk=>(ps L (n+1)).dZ a k)=some o:=by
        rw[<- ho];unfold aQ;split<;>rfl
       refine Sq.lO hL h9 ho λH10 nx10 _ ho h10=> ?_;exact Ci hL (m:=n+1) (n:=0) (G:=[]) (by omega) (oY.of a) rfl ho h10
theorem WB (hL:L.length<=100000){p:PS}(htyp:bn 79 L aO.v p.gJ):bn 60 L cS.v (qZ L p):=by
 intro nx0 nx H0 H bp F k o ho h;unfold qZ at ho;rw[Z2];refine Hq.alloc jF h λx0 H1 av h1=> ?_;refine Sq.word (by decide) hL h1 ho λH2 nx2 _ ho h2=> ?_;simp only[ab,NP];refine Hq.alloc jF h2 λx1 H3 nx3 h3=> ?_;refine Hq.set [_] h3 mb rfl rfl rfl λH4 h4=> ?_
 refine Sq.take hL h4 (λhi H5 nx5 h5=> ?_) (λhi H5 nx5 h5=> ?_)
 . rw[if_pos hi]at ho;simp only[ab];refine Sq.call htyp rfl h5 ho λa k' H6 nx6 _ ho h6=> ?_;refine Hq.mP a.cs a.len h6 λx H7 nx7 h7=> ?_;refine Hq.put [_,_] h7 PK rfl rfl (by simp) rfl λH8 h8=> ?_;refine Wq.jmp (Ju ..) (λ_=>rfl) ?_;simp only[ab,Qs (h8.at_ 2 rfl) rfl];have h9:Hp nx0 H0 (cQ bp L k'::(x0,[au [],aw],52)::([(x,a.cs,84)]++F)) H8 nx7:=(Hp.mv [_,_] h8).sub (by simp);refine Hq.fin h9 mb tb Kn rfl rfl rfl (iO.of (fZ.one (p:=(1,50)) rfl (Gw.Ww (l:=[a]) (Gw.q_ a.iI)))) (by omega) λH10 nx10 h10=>End.ret ho rfl h10
 . rw[if_neg (by rw[hi];simp)]at ho;simp only[ab];refine Wq.jmp (Ju ..) (λ_=>rfl) ?_;simp only[ab,Qs (h5.at_ 1 rfl) rfl];have h9:Hp nx0 H0 (cQ bp L (k+1)::(x0,[au [],aw],52)::([]++F)) H5 nx5:=(Hp.mv [_] h5).sub (by simp);refine Hq.fin h9 mb tb Kn rfl rfl rfl (iO.of (fZ.one (p:=(1,50)) rfl (dA.nil gE ej))) (by omega) λH10 nx10 h10=>End.ret ho rfl h10
end
section
variable {nx0 nx nx' bp k:Nat}{H0 H H':T OB}{F A B G G':List Bx}{s:Bx}{R:Go.Ev.Out->T OB->Nat->Prop}{b:Nat}{l:List Value}{e t:TypeId}{L:List Tok}
structure kI (n:Nat)(cs:List Value)(a:aB)(G:List Bx):Prop where
 len:cs.length=4
 one:cs.all aj=true
 fz:iO n [(3,39)] (.agg ⟨cs⟩) a.v G
theorem kI.of (a:aB):kI 0 a.cs a []:=⟨a.len,(a.iI a.v (by simp)).2.1,a.fz⟩
theorem kI.iI {n:Nat}{cs:List Value}{a:aB}(h:kI n cs a G):qX true 4 [.agg ⟨cs⟩]:=λv hv=>by
 rw[List.mem_singleton]at hv;subst hv;exact⟨h.len,h.one,⟨_,rfl⟩⟩
theorem kI.row {k i:Int}{w:List UInt8}{sl:Value}{l:List aB}{n:Nat}(h:dA n 39 sl (bL l) G)(ho:aj sl=true):kI n [i64 k,i64 i,au w,sl] (.mk k i w l) G:=⟨rfl,by simp[ho],by
 rw[aB.aW];exact iO.of (fZ.one (p:=(3,39)) (cs:=[i64 k,i64 i,au w,sl]) rfl h)⟩
theorem kI.nil {k i:Int}{w:List UInt8}:kI 0 [i64 k,i64 i,au w,aw] (.mk k i w []) []:=kI.row (l:=[]) (dA.nil eX dj) rfl
theorem kI.gw {k i:Int}{w:List UInt8}{sl:Value}{l:List aB}(h:Gw true 4 41 (l.map aB.v) sl G):kI 1 [i64 k,i64 i,au w,sl] (.mk k i w l) G:=kI.row h.TQ (fL h)
theorem kI.b1 {k i:Int}{w:List UInt8}{n:Nat}{cs:List Value}{a:aB}(h:kI n cs a G):kI (n+1) [i64 k,i64 i,au w,j5 b 1 1] (.mk k i w [a]) ((b,cs,41)::G):=by
 have:=dA.er (t:=39) (b:=b) eX dj ft rfl jK h.iI (.inr rfl) (by simp) (km.one h.fz) (λu hu=>by rw[List.mem_singleton]at hu;subst hu;exact a.len);rw[jk cs]at this;exact kI.row this rfl
theorem kI.b2 {k i:Int}{w:List UInt8}{n:Nat}{cs:List Value}{a c:aB}(h:kI n cs a G):kI (n+1) [i64 k,i64 i,au w,j5 b 2 2] (.mk k i w [a,c]) ((b,cs++c.cs,41)::G):=by
 have:=dA.er (t:=39) (b:=b) (vs:=[.agg ⟨cs⟩,c.v]) eX dj ft rfl jK (λv hv=>by
  rcases List.mem_cons.1 hv with rfl | hv
  . exact h.iI _ (by simp)
  . exact c.iI v hv) (.inr rfl) (by simp) (km.two h.fz c.fz) (λu hu=>by
  rcases List.mem_cons.1 hu with rfl | hu
  . exact a.len
  . rw[List.mem_singleton]at hu;subst hu;exact c.len)
 rw[show cY [Value.agg ⟨cs⟩,c.v]=cs++c.cs from nW cs c.cs]at this;exact kI.row this rfl
def KK (L:List Tok)(TT:Nat->PR aB)(a:aB)(k:Nat):PR aB:=if bP L k [58,58]=true then bd (TT (k+1)) λb k=>yes (Ko a b) k else yes a k
theorem KL {TT:Nat->PR aB}(hT:bn 80 L aB.v TT)(hL:L.length<=100000){n:Nat}{cs z:List Value}{a:aB}{x0 x1:Nat}{o:kn aB}(hv:kI n cs a G)(hn:n<=99990)(hz:z.length=4)(ho:KK L TT a k=some o)
 (h:Hp nx0 H0 (cQ bp L k::(x1,cs,41)::(x0,z,41)::(G++F)) H nx):aF P pl X0 (.jump (tx (ptr bp) (ptr x0) (ptr x1) H nx)) nx0 H0 (End nx0 H0 bp L F aB.v o):=by
 refine Wq.jmp (SJ ..) (λ_=>rfl) ?_;unfold KK at ho;refine Sq.take hL h (λhi H1 av h1=> ?_) (λhi H1 av h1=> ?_)
 . rw[if_pos hi]at ho;simp only[ab,vq (h1.at_ 1 rfl) hv.len];refine Sq.call hT rfl h1 ho λc k' H2 nx2 _ ho2 h2=> ?_;simp only[ab,vq (h2.at_ 1 rfl) hv.len,bf];refine Hq.NG cs c.cs hv.len c.len h2 λx H3 nx3 h3=> ?_;simp only[ab,Fj];refine Hq.lh [i64 5,i64 0,au [],j5 x 2 2] rfl h3 λy H4 nx4 h4=> ?_;simp only[ab,NO];have h5:Hp nx0 H0 (cQ bp L k'::(x0,z,41)::((y,[i64 5,i64 0,au [],j5 x 2 2],41)::(x,cs++c.cs,41)::G++F)) H4 nx4:=(Hp.mv [_,_,_] h4).sub (by simp);exact Hq.fin h5 dj ft jK hz rfl rfl (kI.b1 (kI.b2 hv)).fz (by omega) λH5 nx5 h5=>End.ret ho2 rfl h5
 . rw[if_neg (by rw[hi];simp)]at ho;simp only[ab,vq (h1.at_ 1 rfl) hv.len];have h4:Hp nx0 H0 (cQ bp L k::(x0,z,41)::(G++F)) H1 av:=(Hp.mv [_] h1).sub (by simp);exact Hq.fin h4 dj ft jK hz hv.len hv.one hv.fz (by omega) λH5 nx5 h5=>End.ret ho rfl h5
theorem WC (hL:L.length<=100000){p:PS}(hpatom:bn 92 L aB.v p.cm)(hpat:bn 80 L aB.v p.pat):bn 80 L aB.v (oW L p):=by
 intro nx0 nx H0 H bp F k o ho h;unfold oW oV at ho;have hc:∀(a:aB) (k:Nat),(if bP L k [58,58]=true then bd (p.pat (k+1)) λb k=>yes (Ko a b) k else yes a k)=KK L p.pat a k:=λ_ _=>rfl;simp only[hc]at ho;rw[q80];refine Hq.alloc cR h λx0 H1 av h1=> ?_;refine Hq.alloc cR h1 λx1 H2 nx2 h2=> ?_;refine Sq.now h2 λH3 nx3 h3=> ?_;refine Sq.Ng h3 λH4 nx4 h4=> ?_;simp only[ab];refine Wq.ite (λhi=> ?_) (λhi=> ?_)
 . rw[if_pos hi]at ho;simp only[ab,pk h4,fP hL (gQ (show(tk L k).k≠0 by omega))];refine eh h4 λH5 h5=> ?_;simp only[ab,rD];refine Hq.set [_] h5 dj rfl rfl rfl λH6 h6=> ?_
   refine Sq.Wf h6 λH7 nx7 h7=> ?_;cases hb:jZ L (k+1)with
   | true=>
     rw[hb,if_pos rfl,jl]at ho;simp only[fy]at ho;simp only[ab];refine Sq.call hpatom rfl h7 ho λa k' H8 nx8 _ ho h8=> ?_;refine Hq.lh a.cs a.len h8 λx H9 nx9 h9=> ?_;refine Hq.put [_,_] h9 Eu rfl rfl (by simp) rfl λH10 h10=> ?_;exact KL (n:=1) (G:=[(x,a.cs,41)]) hpat hL (kI.b1 (kI.of a)) (by omega) rfl ho (Hp.yG h10)
   | false=>
     rw[hb,if_neg (by simp),fy]at ho;simp only[ab];exact KL (n:=0) (G:=[]) hpat hL kI.nil (by omega) rfl ho h7
 . rw[if_neg hi]at ho;refine Sq.call hpatom rfl h4 ho λa k' H5 nx5 _ ho h5=> ?_;refine Hq.set [_] h5 dj rfl a.len (kI.of a).one λH6 h6=> ?_
   exact KL (n:=0) (G:=[]) hpat hL (kI.of a) (by omega) rfl ho h6
theorem WD (n:Int):iw P .neg (some (i64 n))=some (i64 (IntKind.i64.wrap (-n))):=by rw[yl,Int.zero_sub]
theorem Qx (hL:L.length<=100000):∀(m:Nat),(∀j,j<m->bn 80 L aB.v (ps L j).pat)->∀(l:List aB) (k:Nat) (sl:Value) (G:List Bx) (o:kn aB) (z:List Value) (x0 x1 nx:Nat) (H:Go.Ev.T OB),l.length+m<=90010->Gw true 4 41 (l.map aB.v) sl G->z.length=4->
 bd ((ps L m).iP l k) (λl k=>aQ L [41] k λk=>yes (.mk 5 0 [] l) k)=some o->Hp nx0 H0 (cQ bp L k::(x1,[i64 5,i64 0,au [],sl],41)::(x0,z,41)::(G++F)) H nx->
 aF P pl X0 (.jump (yg (ptr bp) (ptr x0) (ptr x1) H nx)) nx0 H0 (End nx0 H0 bp L F aB.v o)
 | 0,_,l,k,sl,G,o,z,x0,x1,nx,H,hm,hG,hz,ho,h=>by cases ho
 | m+1,hp,l,k,sl,G,o,z,x0,x1,nx,H,hm,hG,hz,ho,h=>by
   have ho:bd (mn L (ps L m) l k) (λl k=>aQ L [41] k λk=>yes (.mk 5 0 [] l) k)=some o:=ho;unfold mn at ho;refine Wq.jmp (SQ ..) (λ_=>rfl) ?_;refine Sq.take hL h (λhi H1 av h1=> ?_) (λhi H1 av h1=> ?_)
   . rw[if_pos hi,jl]at ho;simp only[ab,ah (off:=3) (u:=sl) (h1.at_ 1 rfl) iB rfl];refine Sq.call (hp m (Nat.lt_succ_self m)) rfl h1 ho λc k' H2 nx2 _ ho2 h2=> ?_;simp only[ab,ah (off:=3) (u:=sl) (h2.at_ 1 rfl) iB rfl,bf];refine Hq.lh c.cs c.len h2 λx H3 nx3 h3=> ?_;simp only[ab,ah (off:=3) (u:=sl) (h3.at_ 2 rfl) iB rfl,bf];refine Hq.KI [_,_] (x:=c) (by omega) hG h3 λsl' G' H4 nx4 hG' h4=> ?_;refine Hq.put [_] h4 Eu (by rcases hG'.2 with⟨_,rfl,_⟩ | ⟨b,c,rfl,_⟩<;>rfl) (fL hG') (by simp) rfl λH5 h5=> ?_;exact Qx hL m (λj hj=>hp j (by omega)) (l++[c]) k' sl' G' o z x0 x1 nx4 H5 (by rw[List.length_append];simp;omega) hG' hz ho2 h5
   . rw[if_neg (by rw[hi];simp),fy]at ho;simp only[ab];refine Sq.lO hL h1 ho λH2 nx2 _ ho h2=> ?_;have hv:kI 1 [i64 5,i64 0,au [],sl] (.mk 5 0 [] l) G:=kI.gw hG;simp only[ab,vq (h2.at_ 1 rfl) hv.len];have h4:Hp nx0 H0 (cQ bp L (k+1)::(x0,z,41)::(G++F)) H2 nx2:=(Hp.mv [_] h2).sub (by simp);exact Hq.fin h4 dj ft jK hz hv.len hv.one hv.fz (by omega) λH5 nx5 h5=>End.ret ho rfl h5
theorem WE (hL:L.length<=100000){n:Nat}(hn:n<=90000)(hpat:∀j,j<=n->bn 80 L aB.v (ps L j).pat):bn 92 L aB.v (ps L (n+1)).cm:=by
 intro nx0 nx H0 H bp F k o ho h;have ho:dB L (ps L n) k=some o:=ho;unfold dB at ho;rw[q92];refine Hq.alloc cR h λx0 H1 av h1=> ?_;refine Sq.now h1 λH2 nx2 h2=> ?_;refine Sq.Ng h2 λH3 nx3 h3=> ?_;simp only[ab];refine Wq.ite (λhi=> ?_) (λhi=> ?_)
 . rw[if_pos hi]at ho;simp only[ab,pk h3,fP hL (gQ (show(tk L k).k≠0 by omega))];refine eh h3 λH4 h4=> ?_;simp only[ab,Fk];exact Hq.fin (G:=[]) h4 dj ft jK rfl rfl rfl kI.nil.fz (by omega) λH5 nx5 h5=>End.ret ho rfl h5
 rw[if_neg hi]at ho;refine Wq.ite (λhi=> ?_) (λhi=> ?_)
 . rw[if_pos hi]at ho;simp only[ab,pk h3,fP hL (gQ (show(tk L k).k≠0 by omega))];refine eh h3 λH4 h4=> ?_;simp only[ab,rD];exact Hq.fin (G:=[]) h4 dj ft jK rfl rfl rfl kI.nil.fz (by omega) λH5 nx5 h5=>End.ret ho rfl h5
 rw[if_neg hi]at ho;refine Wq.ite (λhi=> ?_) (λhi=> ?_)
 . rw[if_pos hi]at ho;simp only[ab,pk h3,fP hL (gQ (show(tk L k).k≠0 by omega))];refine eh h3 λH4 h4=> ?_;simp only[ab,rD];exact Hq.fin (G:=[]) h4 dj ft jK rfl rfl rfl kI.nil.fz (by omega) λH5 nx5 h5=>End.ret ho rfl h5
 rw[if_neg hi]at ho;refine Wq.ite (λhi=> ?_) (λhi=> ?_)
 . rw[if_pos hi]at ho;simp only[ab,pk h3,fP hL (gQ (show(tk L k).k≠0 by omega))];refine eh h3 λH4 h4=> ?_;simp only[ab,rD];exact Hq.fin (G:=[]) h4 dj ft jK rfl rfl rfl kI.nil.fz (by omega) λH5 nx5 h5=>End.ret ho rfl h5
 rw[if_neg hi]at ho;refine Sq.take hL h3 (λhi H4 nx4 h4=> ?_) (λhi H4 nx4 h4=> ?_)
 . rw[if_pos hi]at ho;simp only[ab];exact Hq.fin (G:=[]) h4 dj ft jK rfl rfl rfl kI.nil.fz (by omega) λH5 nx5 h5=>End.ret ho rfl h5
 rw[if_neg (by rw[hi];simp)]at ho;simp only[ab];refine Sq.take hL h4 (λhi H5 nx5 h5=> ?_) (λhi H5 nx5 h5=> ?_)
 . rw[if_pos hi]at ho;simp only[ab];refine Sq.word (by decide) hL h5 ho λH6 nx6 _ ho h6=> ?_;simp only[ab,WD,Fk];exact Hq.fin (G:=[]) h6 dj ft jK rfl rfl rfl kI.nil.fz (by omega) λH7 nx7 h7=>End.ret ho rfl h7
 rw[if_neg (by rw[hi];simp)]at ho;simp only[ab];refine Sq.lO hL h5 ho λH6 nx6 _ ho h6=> ?_;refine Sq.take hL h6 (λhi H7 nx7 h7=> ?_) (λhi H7 nx7 h7=> ?_)
 . rw[if_pos hi]at ho;simp only[ab];exact Hq.fin (G:=[]) h7 dj ft jK rfl rfl rfl kI.nil.fz (by omega) λH8 nx8 h8=>End.ret ho rfl h8
 rw[if_neg (by rw[hi];simp)]at ho;simp only[ab];refine Sq.call (hpat n (Nat.le_refl n)) rfl h7 ho λa k' H8 nx8 _ ho h8=> ?_;refine Hq.alloc cR h8 λx1 H9 nx9 h9=> ?_;refine Hq.set [_] h9 dj rfl a.len (kI.of a).one λH10 h10=> ?_
 refine Sq.is h10 λH11 nx11 h11=> ?_;cases hc:bP L k' [44]with
 | true=>
   rw[hc,if_pos rfl]at ho;simp only[ab,vq (h11.at_ 1 rfl) a.len];refine Hq.lh a.cs a.len h11 λx H12 nx12 h12=> ?_;simp only[ab,Fj];refine Hq.set [_,_] h12 dj a.len rfl rfl λH13 h13=> ?_
   exact Qx hL (n+1) (λj hj=>hpat j (by omega)) [a] k' (j5 x 1 1) [(x,a.cs,41)] o _ x0 x1 nx12 H13 (show 1+(n+1)<=90010 by omega) (Gw.q_ a.iI) rfl ho (Hp.yG h13)
 | false=>
   rw[hc,if_neg (by simp)]at ho;simp only[ab];refine Wq.jmp (SR ..) (λ_=>rfl) ?_;refine Sq.lO hL h11 ho λH12 nx12 _ ho h12=> ?_;simp only[ab,vq (h12.at_ 1 rfl) a.len];have h4:Hp nx0 H0 (cQ bp L (k'+1)::(x0,[i64 0,i64 0,au [],aw],41)::([]++F)) H12 nx12:=(Hp.mv [_] h12).sub (by simp);exact Hq.fin h4 dj ft jK rfl a.len (kI.of a).one a.fz (by omega) λH5 nx5 h5=>End.ret ho rfl h5
end
section
variable {nx0 nx nx' bp k:Nat}{H0 H H':T OB}{F A B G G':List Bx}{s:Bx}{R:Go.Ev.Out->T OB->Nat->Prop}{b:Nat}{l:List Value}{e t:TypeId}{L:List Tok}
structure gm (n:Nat)(cs:List Value)(a:aq)(G:List Bx):Prop where
 len:cs.length=6
 one:cs.all aj=true
 fz:iO n [(3,42),(4,39),(5,23)] (.agg ⟨cs⟩) a.v G
theorem gm.of (a:aq):gm 0 a.cs a []:=⟨a.len,(a.iI a.v (by simp)).2.1,a.fz⟩
theorem gm.iI {n:Nat}{cs:List Value}{a:aq}(h:gm n cs a G):qX true 6 [.agg ⟨cs⟩]:=λv hv=>by
 rw[List.mem_singleton]at hv;subst hv;exact⟨h.len,h.one,⟨_,rfl⟩⟩
theorem gm.row {k i:Int}{w:List UInt8}{sl sp sd:Value}{l:List aq}{p:List aB}{d:List aG}{n:Nat}{G1 G2 G3:List Bx}(h1:dA n 42 sl (eB l) G1)(h2:dA n 39 sp (bL p) G2)(h3:dA n 23 sd (ca d) G3)(o1:aj sl=true)(o2:aj sp=true)(o3:aj sd=true):
 gm n [i64 k,i64 i,au w,sl,sp,sd] (.mk k i w l p d) (G1++(G2++G3)):=⟨rfl,by simp[o1,o2,o3],by
 rw[aq.aW];exact iO.of (fZ.cons (p:=(3,42)) (cs:=[i64 k,i64 i,au w,sl,sp,sd]) rfl h1 (fZ.cons (p:=(4,39)) rfl h2 (fZ.one (p:=(5,23)) rfl h3)))⟩
theorem mu {n:Nat}:dA n 39 aw (bL []) []:=(dA.nil eX dj).mono (Nat.zero_le n)
theorem vr {n:Nat}:dA n 23 aw (ca []) []:=(dA.nil iA fJ).mono (Nat.zero_le n)
theorem AH {n:Nat}:dA n 42 aw (eB []) []:=(dA.nil gh cj).mono (Nat.zero_le n)
theorem gm.ll {k i:Int}{w:List UInt8}{sl:Value}{l:List aq}{n:Nat}(h:dA n 42 sl (eB l) G)(ho:aj sl=true):gm n [i64 k,i64 i,au w,sl,aw,aw] (.mk k i w l [] []) G:=by
 have:=gm.row (k:=k) (i:=i) (w:=w) h (mu (n:=n)) (vr (n:=n)) ho rfl rfl;rwa[List.append_nil,List.append_nil]at this
theorem gm.nil {k i:Int}{w:List UInt8}:gm 0 [i64 k,i64 i,au w,aw,aw,aw] (.mk k i w [] [] []) []:=gm.ll AH rfl
theorem gm.gw {k i:Int}{w:List UInt8}{sl:Value}{l:List aq}(h:Gw true 6 44 (l.map aq.v) sl G):gm 1 [i64 k,i64 i,au w,sl,aw,aw] (.mk k i w l [] []) G:=gm.ll h.Wv (fL h)
theorem gm.b1 {k i:Int}{w:List UInt8}{n:Nat}{cs:List Value}{a:aq}(h:gm n cs a G):gm (n+1) [i64 k,i64 i,au w,j5 b 1 1,aw,aw] (.mk k i w [a] [] []) ((b,cs,44)::G):=by
 have:=dA.er (t:=42) (b:=b) gh cj dN rfl gI h.iI (.inr rfl) (by simp) (km.one h.fz) (λu hu=>by rw[List.mem_singleton]at hu;subst hu;exact a.len);rw[jk cs]at this;exact gm.ll this rfl
theorem gm.b2 {k i:Int}{w:List UInt8}{n:Nat}{cs:List Value}{a c:aq}(h:gm n cs a G):gm (n+1) [i64 k,i64 i,au w,j5 b 2 2,aw,aw] (.mk k i w [a,c] [] []) ((b,cs++c.cs,44)::G):=by
 have:=dA.er (t:=42) (b:=b) (vs:=[.agg ⟨cs⟩,c.v]) gh cj dN rfl gI (λv hv=>by
  rcases List.mem_cons.1 hv with rfl | hv
  . exact h.iI _ (by simp)
  . exact c.iI v hv) (.inr rfl) (by simp) (km.two h.fz c.fz) (λu hu=>by
  rcases List.mem_cons.1 hu with rfl | hu
  . exact a.len
  . rw[List.mem_singleton]at hu;subst hu;exact c.len)
 rw[show cY [Value.agg ⟨cs⟩,c.v]=cs++c.cs from nW cs c.cs]at this;exact gm.ll this rfl
theorem gm.b3 {k i:Int}{w:List UInt8}{a c d:aq}:gm 1 [i64 k,i64 i,au w,j5 b 3 3,aw,aw] (.mk k i w [a,c,d] [] []) [(b,a.cs++c.cs++d.cs,44)]:=by
 have hG:Gw true 6 44 ([a,c,d].map aq.v) (j5 b 3 3) [(b,cY ([a,c,d].map aq.v),44)]:=Gw.one (aq.Ym _) rfl (by decide);have e:cY ([a,c,d].map aq.v)=a.cs++c.cs++d.cs:=by
  show a.cs++(c.cs++(d.cs++[]))=_;rw[List.append_nil,List.append_assoc]
 rw[e]at hG;exact gm.gw hG
theorem Qy (hL:L.length<=100000):∀(m:Nat),(∀j,j<m->bn 80 L aB.v (ps L j).pat)->(∀j,j<m->bn 47 L aq.v (ps L j).exp)->∀(kk:Int) (l:List aq) (q:List aB) (k:Nat) (sl sp:Value) (G G':List Bx) (o:kn aq) (z:List Value) (x0 x1 nx:Nat) (H:Go.Ev.T OB),l.length+m<=90010->q.length+m<=90010->
 Gw true 6 44 (l.map aq.v) sl G->Gw true 4 41 (q.map aB.v) sp G'->z.length=6->(ps L m).j4 (.mk kk 0 [] l q []) k=some o->Hp nx0 H0 (cQ bp L k::(x1,[i64 kk,i64 0,au [],sl,sp,aw],44)::(x0,z,44)::(G++(G'++F))) H nx->
 aF P pl X0 (.jump (EE (ptr bp) (ptr x1) (ptr x0) H nx)) nx0 H0 (End nx0 H0 bp L F aq.v o)
 | 0,_,_,kk,l,q,k,sl,sp,G,G',o,z,x0,x1,nx,H,hm,hm',hG,hG',hz,ho,h=>by cases ho
 | m+1,hp,he,kk,l,q,k,sl,sp,G,G',o,z,x0,x1,nx,H,hm,hm',hG,hG',hz,ho,h=>by
   have ho:qY L (ps L m) (.mk kk 0 [] l q []) k=some o:=ho;unfold qY at ho;refine Wq.jmp (VF ..) (λ_=>rfl) ?_;simp only[ab,ah (off:=4) (u:=sp) (h.at_ 1 rfl) iB rfl];refine Sq.call (hp m (Nat.lt_succ_self m)) rfl h ho λa k' H2 nx2 _ ho h2=> ?_;simp only[ab,ah (off:=4) (u:=sp) (h2.at_ 1 rfl) iB rfl,bf];refine Hq.lh a.cs a.len h2 λx H3 nx3 h3=> ?_;simp only[ab,ah (off:=4) (u:=sp) (h3.at_ 2 rfl) iB rfl,bf];refine Hq.KI (_::_::G) (x:=a) (by omega) hG' h3 λsp' G2 H4 nx4 hG2 h4=> ?_;refine Hq.put [_] h4 Eu (by rcases hG2.2 with⟨_,rfl,_⟩ | ⟨b,c,rfl,_⟩<;>rfl) (fL hG2) (by simp) rfl λH5 h5=> ?_;refine Sq.lO hL h5 ho λH6 nx6 _ ho h6=> ?_;simp only[ab,ah (off:=3) (u:=sl) (h6.at_ 1 rfl) jT rfl];refine Sq.call (he m (Nat.lt_succ_self m)) rfl h6 ho λc k2 H7 nx7 _ ho h7=> ?_;simp only[ab,ah (off:=3) (u:=sl) (h7.at_ 1 rfl) jT rfl,bf];refine Hq.gL c.cs c.len h7 λy H8 nx8 h8=> ?_;simp only[ab,ah (off:=3) (u:=sl) (h8.at_ 2 rfl) jT rfl,bf];refine Hq.KH [_,_] (x:=c) (by omega) hG h8 λsl' G1 H9 nx9 hG1 h9=> ?_;refine Hq.put [_] h9 Ew (by rcases hG1.2 with⟨_,rfl,_⟩ | ⟨b,c,rfl,_⟩<;>rfl) (fL hG1) (by simp) rfl λH10 h10=> ?_;refine Sq.take hL h10 (λhi H11 nx11 h11=> ?_) (λhi H11 nx11 h11=> ?_)
   . rw[if_pos hi]at ho;simp only[ab];exact Qy hL m (λj hj=>hp j (by omega)) (λj hj=>he j (by omega)) kk (l++[c]) (q++[a]) (k2+1) sl' sp' G1 G2 o z x0 x1 nx11 H11 (by rw[List.length_append];simp;omega) (by rw[List.length_append];simp;omega) hG1 hG2 hz ho h11
   . rw[if_neg (by rw[hi];simp)]at ho;have hv:gm 1 [i64 kk,i64 0,au [],sl',sp',aw] (.mk kk 0 [] (l++[c]) (q++[a]) []) (G1++(G2++[])):=gm.row hG1.Wv hG2.TQ vr (fL hG1) (fL hG2) rfl;simp only[ab,iu (h11.at_ 1 rfl) hv.len];have h12:Hp nx0 H0 (cQ bp L k2::(x0,z,44)::((G1++(G2++[]))++F)) H11 nx11:=by
      rw[List.append_nil,List.append_assoc];exact(Hp.mv [_] h11).sub (by simp)
     exact Hq.fin h12 cj dN gI hz hv.len hv.one hv.fz (by omega) λH5 nx5 h5=>End.ret ho rfl h5
def NX (L:List Tok)(r:aq->Nat->PR aq):Prop:=∀(nx0 nx:Nat) (H0 H:Go.Ev.T OB) (bp:Nat) (F G:List Bx) (k:Nat) (o:kn aq) (kk:Int) (l:List aq) (sl:Value),l.length<=3->Gw true 6 44 (l.map aq.v) sl G->r (.mk kk 0 [] l [] []) k=some o->Hp nx0 H0 (cQ bp L k::(G++F)) H nx->
 aF P pl X0 (aI P pl (.call 63 [ptr bp,.agg ⟨[i64 kk,i64 0,au [],sl,aw,aw]⟩] false none H nx)) nx0 H0 (End nx0 H0 bp L F aq.v o)
theorem WG (hL:L.length<=100000){n:Nat}(hn:n<=90000)(hp:∀j,j<=n->bn 80 L aB.v (ps L j).pat)(he:∀j,j<=n->bn 47 L aq.v (ps L j).exp):NX L (ps L (n+1)).j4:=by
 intro nx0 nx H0 H bp F G k o kk l sl hl hG ho h;rw[Z4];refine Hq.box h λx1 H1 av h1=> ?_;refine Hq.alloc bI h1 λx0 H2 nx2 h2=> ?_;exact Qy hL (n+1) (λj hj=>hp j (by omega)) (λj hj=>he j (by omega)) kk l [] k sl aw G [] o _ x0 x1 nx2 H2 (by omega) (by simp;omega) hG (Gw.nil _ _ _) rfl ho (Hp.swap' h2)
theorem qh {α:Type}(x:PR α):bd x yes=x:=by
 cases x with
 | none=>rfl
 | some r=>cases r<;>rfl
theorem Sq.KM {β:Type}{F1:List Bx}{vg:β->Value}{r:aq->Nat->PR aq}{g:aq->Nat->PR β}{o:kn β}{kk:Int}{l:List aq}{sl:Value}{kt:Value->Go.Ev.T OB->Nat->Q}(hs:NX L r)(hl:l.length<=3)(hG:Gw true 6 44 (l.map aq.v) sl G)(h:Hp nx0 H0 (cQ bp L k::(G++F1)) H nx)
 (ho:bd (r (.mk kk 0 [] l [] []) k) g=some o) (hk:∀a k' H' nx',g a k'=some o->Hp nx0 H0 (cQ bp L k'::F1) H' nx'->aF P pl X0 (kt a.v H' nx') nx0 H0 (End nx0 H0 bp L F vg o)):
 aF P pl X0 (bQ (.call 63 [ptr bp,.agg ⟨[i64 kk,i64 0,au [],sl,aw,aw]⟩] false none H nx) kt Ev.gg) nx0 H0 (End nx0 H0 bp L F vg o):=by
 cases hr:r (.mk kk 0 [] l [] []) k with
 | none=>rw[hr]at ho;cases ho
 | some q=>
   refine Wq.iF rfl (hs nx0 nx H0 H bp F1 G k q kk l sl hl hG hr h) (λu H' nx' _ he=> ?_) (λu H' nx' hA he=> ?_)
   . cases q with
     | bad a=>cases he
     | ok a k'=>
       rw[hr,E7]at ho;cases he.1;exact hk a k' H' nx' ho he.2
   . cases q with
     | ok a k'=>cases he.1
     | bad a=>
       rw[hr,yv]at ho;cases ho;cases he;exact Sq.gg hA
theorem Hq.NY {a:aq}{kt:Go.Ev.T OB->Nat->Q}(h:Hp nx0 H0 F H nx)(hk:∀H' nx',Hp nx0 H0 F H' nx'->aF P pl X0 (kt H' nx') nx0 H0 R):aF P pl X0 (aR (cD P H nx 44) λp H nx=>cV P H nx 44 (some p) a.v kt) nx0 H0 R:=Hq.var bI cj rfl a.len (gm.of a).one h hk
theorem XP (a:aq):ai P H 44 (some (aa a.v))=some a.v:=by
 rw[aq.aW];exact IB ..
theorem Hq.Cj {z:List Value}{a:aq}{x0:Nat}{kt:Value->Go.Ev.T OB->Nat->Q}(h:Hp nx0 H0 (s::(x0,z,44)::F) H nx)(hz:z.length=6)(hk:∀H' nx',Hp nx0 H0 (s::F) H' nx'->aF P pl X0 (kt a.v H' nx') nx0 H0 R):
 aF P pl X0 (aR (cI P H nx 44 (some (ptr x0)) (some a.v)) λ_ H nx=>af (ai P H 44 (some (ptr x0))) (λx=>ch P 44 x H nx kt) .bad) nx0 H0 R:=
 Hq.fin (G:=[]) h cj dN gI hz a.len (gm.of a).one a.fz (by omega) hk
theorem Yq (hL:L.length<=100000){p:PS}(hexp:bn 47 L aq.v p.exp)(hmat:NX L p.j4)(hbin:∀nx0 nx H0 H bp F k o,p.bin 0 k=some o->Hp nx0 H0 (cQ bp L k::F) H nx->aF P pl X0 (aI P pl (.call 64 [ptr bp,i64 0] false none H nx)) nx0 H0 (End nx0 H0 bp L F aq.v o)):bn 47 L aq.v (jv L p):=by
 intro nx0 nx H0 H bp F k o ho h;unfold jv at ho;rw[ZP];refine Hq.alloc bI h λx0 H1 av h1=> ?_;refine Sq.take hL h1 (λhi H2 nx2 h2=> ?_) (λhi H2 nx2 h2=> ?_)
 . rw[if_pos hi]at ho;simp only[ab];refine Sq.call hexp rfl h2 ho λa k2 H3 nx3 _ ho h3=> ?_;refine Hq.NY h3 λH4 nx4 h4=> ?_;refine Sq.lO hL h4 ho λH5 nx5 _ ho h5=> ?_;refine Sq.call hexp rfl h5 ho λb k3 H6 nx6 _ ho h6=> ?_;refine Hq.NY h6 λH7 nx7 h7=> ?_;refine Sq.lO hL h7 ho λH8 nx8 _ ho h8=> ?_;simp only[ab,XP];refine Sq.call hexp rfl h8 ho λc k4 H9 nx9 _ ho h9=> ?_;refine Hq.NC a.cs b.cs c.cs a.len b.len c.len h9 λx H10 nx10 h10=> ?_;simp only[ab,jP];have h11:Hp nx0 H0 (cQ bp L k4::(x0,_,44)::([(x,a.cs++b.cs++c.cs,44)]++F)) H10 nx10:=Hp.swap' h10;exact Hq.fin h11 cj dN gI rfl rfl rfl gm.b3.fz (by omega) λH5 nx5 h5=>End.ret ho rfl h5
 rw[if_neg (by rw[hi];simp)]at ho;simp only[ab];refine Sq.take hL h2 (λhi H3 nx3 h3=> ?_) (λhi H3 nx3 h3=> ?_)
 . rw[if_pos hi]at ho;simp only[ab];refine Sq.call hexp rfl h3 ho λa k2 H4 nx4 _ ho h4=> ?_;refine Hq.NY h4 λH5 nx5 h5=> ?_;refine Sq.lO hL h5 ho λH6 nx6 _ ho h6=> ?_;simp only[ab,XP];refine Hq.gL a.cs a.len h6 λx H7 nx7 h7=> ?_;simp only[ab,jP];rw[<- qh (p.j4 _ _)]at ho;refine Sq.KM hmat (l:=[a]) (by simp) (Gw.q_ a.iI) h7 ho λc k3 H8 nx8 ho h8=> ?_;exact Hq.Cj h8 rfl λH9 nx9 h9=>End.ret ho rfl h9
 rw[if_neg (by rw[hi];simp)]at ho;simp only[ab];refine Sq.take hL h3 (λhi H4 nx4 h4=> ?_) (λhi H4 nx4 h4=> ?_)
 . rw[if_pos hi]at ho;simp only[ab];rw[<- qh (p.j4 _ _)]at ho;refine Sq.KM hmat (l:=[]) (G:=[]) (by simp) (Gw.nil _ _ _) h4 ho λc k3 H8 nx8 ho h8=> ?_;exact Hq.Cj h8 rfl λH9 nx9 h9=>End.ret ho rfl h9
 rw[if_neg (by rw[hi];simp)]at ho;simp only[ab];refine Sq.take hL h4 (λhi H5 nx5 h5=> ?_) (λhi H5 nx5 h5=> ?_)
 . rw[if_pos hi]at ho;simp only[ab];refine Sq.call hexp rfl h5 ho λa k2 H6 nx6 _ ho h6=> ?_;refine Hq.gL a.cs a.len h6 λx H7 nx7 h7=> ?_;simp only[ab,jP];have h11:Hp nx0 H0 (cQ bp L k2::(x0,_,44)::([(x,a.cs,44)]++F)) H7 nx7:=Hp.swap' h7;exact Hq.fin h11 cj dN gI rfl rfl rfl (gm.b1 (gm.of a)).fz (by omega) λH5 nx5 h5=>End.ret ho rfl h5
 rw[if_neg (by rw[hi];simp)]at ho;simp only[ab];cases hr:p.bin 0 k with
 | none=>rw[hr]at ho;cases ho
 | some q=>
   refine Wq.iF rfl (hbin nx0 nx5 H0 H5 bp _ k q hr h5) (λu H6 nx6 _ he=> ?_) (λu H6 nx6 hA he=> ?_)
   . cases q with
     | bad a=>cases he
     | ok a k2=>
       rw[hr,E7]at ho;obtain⟨he1,h6⟩:=he;cases he1;refine Hq.NY h6 λH7 nx7 h7=> ?_;refine Sq.take hL h7 (λhi H8 nx8 h8=> ?_) (λhi H8 nx8 h8=> ?_)
       . rw[if_pos hi]at ho;simp only[ab,XP];refine Hq.gL a.cs a.len h8 λx H9 nx9 h9=> ?_;simp only[ab,jP];rw[<- qh (p.j4 _ _)]at ho;refine Sq.KM hmat (l:=[a]) (by simp) (Gw.q_ a.iI) h9 ho λc k3 H10 nx10 ho h10=> ?_;exact Hq.Cj h10 rfl λH9 nx9 h9=>End.ret ho rfl h9
       . rw[if_neg (by rw[hi];simp)]at ho;simp only[ab,XP];exact Hq.Cj h8 rfl λH9 nx9 h9=>End.ret ho rfl h9
   . cases q with
     | ok a k'=>cases he.1
     | bad a=>
       rw[hr,yv]at ho;cases ho;cases he;exact Sq.gg hA
end
section
variable {nx0 nx nx' bp k:Nat}{H0 H H':T OB}{F A B G G':List Bx}{s:Bx}{R:Go.Ev.Out->T OB->Nat->Prop}{b:Nat}{l:List Value}{e t:TypeId}{L:List Tok}
theorem NZ:∀(i:Nat),i<7->bc P 140 (some (.pointer (some ⟨3,0,none⟩))) (some (i64 (i:Int)))=some (.pointer (some ⟨3,i,none⟩))
 | 0,_=>by kernel_rfl
 | 1,_=>by kernel_rfl
 | 2,_=>by kernel_rfl
 | 3,_=>by kernel_rfl
 | 4,_=>by kernel_rfl
 | 5,_=>by kernel_rfl
 | 6,_=>by kernel_rfl
 | i+7,h=>by omega
theorem Fl {i:Nat}(h:i<7):aC[i]? = some ((aC[i]?).getD [])/\((aC[i]?).getD []).length<dQ/\((aC[i]?).getD []).contains []=false/\∀w,((aC[i]?).getD []).contains w=true->(decide (w=[58,61])||decide (w=[58,58]))=decide (i=2\/i=4):=by
 have:∀i,i<7->aC[i]? = some ((aC[i]?).getD [])/\((aC[i]?).getD []).length<100/\((aC[i]?).getD []).contains []=false/\(((aC[i]?).getD []).all λw=>(decide (w=[58,61])||decide (w=[58,58])) == decide (i=2\/i=4))=true:=by decide +kernel
 obtain⟨h1,h2,h3,h4⟩:=this i h;refine⟨h1,Nat.lt_trans h2 (by decide),h3,λw hw=> ?_⟩;have hm:w∈(aC[i]?).getD []:=by simpa using hw
 have:=List.all_eq_true.1 h4 w hm;simpa using this
def KN (L:List Tok)(r:Nat->Nat->PR aq):Prop:=∀(lv nx0 nx:Nat) (H0 H:Go.Ev.T OB) (bp:Nat) (F:List Bx) (k:Nat) (o:kn aq),lv<=7->r lv k=some o->Hp nx0 H0 (cQ bp L k::F) H nx->aF P pl X0 (aI P pl (.call 64 [ptr bp,i64 (lv:Int)] false none H nx)) nx0 H0 (End nx0 H0 bp L F aq.v o)
theorem Sq.jc {β:Type}{F1:List Bx}{vg:β->Value}{lv:Nat}{r:Nat->Nat->PR aq}{g:aq->Nat->PR β}{o:kn β}{kt:Value->Go.Ev.T OB->Nat->Q}(hs:KN L r)(hl:lv<=7)(h:Hp nx0 H0 (cQ bp L k::F1) H nx)
 (ho:bd (r lv k) g=some o) (hk:∀a k' H' nx',g a k'=some o->Hp nx0 H0 (cQ bp L k'::F1) H' nx'->aF P pl X0 (kt a.v H' nx') nx0 H0 (End nx0 H0 bp L F vg o)):
 aF P pl X0 (bQ (.call 64 [ptr bp,i64 (lv:Int)] false none H nx) kt Ev.gg) nx0 H0 (End nx0 H0 bp L F vg o):=by
 cases hr:r lv k with
 | none=>rw[hr]at ho;cases ho
 | some q=>
   refine Wq.iF rfl (hs lv nx0 nx H0 H bp F1 k q hl hr h) (λu H' nx' _ he=> ?_) (λu H' nx' hA he=> ?_)
   . cases q with
     | bad a=>cases he
     | ok a k'=>
       rw[hr,E7]at ho;cases he.1;exact hk a k' H' nx' ho he.2
   . cases q with
     | ok a k'=>cases he.1
     | bad a=>
       rw[hr,yv]at ho;cases ho;cases he;exact Sq.gg hA
theorem N0 {lv k:Nat}(h:lv<7):gV L lv k=(!decide ((if ko L k=true then(tk L k).s else[])=[])&&((aC[lv]?).getD []).contains (if ko L k=true then(tk L k).s else[])):=by
 obtain⟨_,_,h3,_⟩:=Fl h;unfold gV;cases ko L k with
 | false=>simp
 | true=>
   rw[Bool.true_and,if_pos rfl]
   by_cases hs:(tk L k).s=[]
   . rw[hs,h3];simp
   . simp[hs]
theorem KO {L:List Tok}{k:Nat}(h:ko L k=true):k<L.length:=gQ λq=>by unfold ko at h;rw[q]at h;simp at h
theorem Qz (hL:L.length<=100000){lv:Nat}(hlv:lv<7):∀(m:Nat),(∀j,j<m->KN L (ps L j).bin)->∀(a:aq) (k n:Nat) (cs z:List Value) (G:List Bx) (o:kn aq) (x0 x1 nx:Nat) (H:Go.Ev.T OB),n+m<=90010->gm n cs a G->z.length=6->(ps L m).jt lv a k=some o->
 Hp nx0 H0 (cQ bp L k::(x1,cs,44)::(x0,z,44)::(G++F)) H nx->aF P pl X0 (.jump (xJ (ptr bp) (i64 (lv:Int)) (ptr x0) (ptr x1) H nx)) nx0 H0 (End nx0 H0 bp L F aq.v o)
 | 0,_,a,k,n,cs,z,G,o,x0,x1,nx,H,hm,hv,hz,ho,h=>by cases ho
 | m+1,hb,a,k,n,cs,z,G,o,x0,x1,nx,H,hm,hv,hz,ho,h=>by
   have ho:mZ L (ps L m) lv a k=some o:=ho;unfold mZ at ho;obtain⟨hg1,hg2,hg3,hg4⟩:=Fl hlv;refine Wq.jmp (Sp ..) (λ_=>rfl) ?_;refine Sq.op h λH1 av h1=> ?_;have fin:∀(w:Value) H2 nx2,gV L lv k=false->Hp nx0 H0 (cQ bp L k::(x1,cs,44)::(x0,z,44)::(G++F)) H2 nx2->aF P pl X0 (.jump (xK (ptr bp) (i64 (lv:Int)) (ptr x0) (ptr x1) w true H2 nx2)) nx0 H0 (End nx0 H0 bp L F aq.v o):=by
    intro w H2 nx2 hf h2;rw[if_neg (by rw[hf];simp)]at ho;refine Wq.jmp (Jw ..) (λ_=>rfl) ?_;simp only[ab,iu (h2.at_ 1 rfl) hv.len];have h3:Hp nx0 H0 (cQ bp L k::(x0,z,44)::(G++F)) H2 nx2:=(Hp.mv [_] h2).sub (by simp);exact Hq.fin h3 cj dN gI hz hv.len hv.one hv.fz (by omega) λH5 nx5 h5=>End.ret ho rfl h5
   have hop:=N0 (L:=L) (k:=k) hlv;simp only[ab,XN];refine Wq.ite (λhw=> ?_) (λhw=> ?_)
   . exact fin _ H1 av (by rw[hop,hw];simp) h1
   . simp only[ab,NZ lv hlv,qe (h1.yq.ag h1.ag).levels wK (show(aC.map lvl)[lv]? = some (lvl ((aC[lv]?).getD []))by rw[List.getElem?_map,hg1];rfl)];refine Hq.call (Ks _ hg2 _) h1 λH2 nx2 h2=> ?_;simp only[ab];cases hc:((aC[lv]?).getD []).contains (if ko L k=true then(tk L k).s else[])with
     | false=>exact fin _ H2 nx2 (by rw[hop,hc,Bool.and_false]) h2
     | true=>
       have nh:gV L lv k=true:=by rw[hop,hc];simp[hw]
       have hW:ko L k=true:=by
        unfold gV at nh;rw[Bool.and_eq_true]at nh;exact nh.1
       rw[if_pos nh]at ho;rw[if_pos hW]at hc ⊢;refine Wq.jmp (Jw ..) (λ_=>rfl) ?_;simp only[ab,pk h2,fP hL (KO hW)];refine eh h2 λH3 h3=> ?_;refine Hq.call (TF _) h3 λH4 nx4 h4=> ?_;rw[hg4 _ hc];refine Wq.ite (λhr=> ?_) (λhr=> ?_)
       . rw[if_pos hr]at ho;simp only[ab,iu (h4.at_ 1 rfl) hv.len];refine Sq.jc (hb m (Nat.lt_succ_self m)) (by omega) h4 ho λc k' H5 nx5 ho h5=> ?_;simp only[ab,iu (h5.at_ 1 rfl) hv.len,bf];refine Hq.yD cs c.cs hv.len c.len h5 λx H6 nx6 h6=> ?_;simp only[ab,yE];have h7:Hp nx0 H0 (cQ bp L k'::(x0,z,44)::((x,cs++c.cs,44)::G++F)) H6 nx6:=(Hp.mv [_,_] h6).sub (by simp);exact Hq.fin h7 cj dN gI hz rfl rfl (gm.b2 hv).fz (by omega) λH5 nx5 h5=>End.ret ho rfl h5
       . rw[if_neg hr]at ho;simp only[ab,iu (h4.at_ 1 rfl) hv.len,ao (show lv<9223372036854775807 by omega)];refine Sq.jc (lv:=lv+1) (hb m (Nat.lt_succ_self m)) (by omega) h4 ho λc k' H5 nx5 ho h5=> ?_;simp only[ab,iu (h5.at_ 1 rfl) hv.len,bf];refine Hq.yD cs c.cs hv.len c.len h5 λx H6 nx6 h6=> ?_;simp only[ab,yE];refine Hq.set [_,_] h6 cj hv.len rfl rfl λH7 h7=> ?_
         exact Qz hL hlv m (λj hj=>hb j (by omega)) _ k' (n+1) _ z ((x,cs++c.cs,44)::G) o x0 x1 nx6 H7 (by omega) (gm.b2 hv) hz ho (Hp.yG h7)
theorem WH (hL:L.length<=100000){n:Nat}(hn:n<=90000)(hb:∀j,j<=n->KN L (ps L j).bin)(hu:bn 83 L aq.v (ps L n).un):KN L (ps L (n+1)).bin:=by
 intro lv nx0 nx H0 H bp F k o hlv ho h;have ho:lI L (ps L n) lv k=some o:=ho;unfold lI at ho;rw[Z5];refine Hq.alloc bI h λx0 H1 av h1=> ?_;simp only[ab];refine Wq.ite (λhi=> ?_) (λhi=> ?_)
 . rw[if_pos (by omega),<- qh ((ps L n).un k)]at ho;refine Sq.call hu rfl h1 ho λa k' H2 nx2 _ ho h2=> ?_;exact Hq.Cj h2 rfl λH9 nx9 h9=>End.ret ho rfl h9
 . rw[if_neg (by omega)]at ho;simp only[ab,ao (show lv<9223372036854775807 by omega)];refine Sq.jc (lv:=lv+1) (hb n (Nat.le_refl n)) (by omega) h1 ho λa k' H2 nx2 ho h2=> ?_;refine Hq.alloc bI h2 λx1 H3 nx3 h3=> ?_;refine Hq.set [_] h3 cj rfl a.len (gm.of a).one λH4 h4=> ?_
   exact Qz hL (by omega) (n+1) (λj hj=>hb j (by omega)) a k' 0 _ _ [] o x0 x1 nx3 H4 (by omega) (gm.of a) rfl ho h4
theorem QA (hL:L.length<=100000):∀(m:Nat),(∀j,j<m->bn 93 L aq.v (ps L j).atom)->∀(a:aq) (k n:Nat) (cs z:List Value) (G:List Bx) (o:kn aq) (x0 x1 nx:Nat) (H:Go.Ev.T OB),n+m<=90010->gm n cs a G->z.length=6->(ps L m).ju a k=some o->
 Hp nx0 H0 (cQ bp L k::(x1,cs,44)::(x0,z,44)::(G++F)) H nx->aF P pl X0 (.jump (yc (ptr bp) (ptr x0) (ptr x1) H nx)) nx0 H0 (End nx0 H0 bp L F aq.v o)
 | 0,_,a,k,n,cs,z,G,o,x0,x1,nx,H,hm,hv,hz,ho,h=>by cases ho
 | m+1,ha,a,k,n,cs,z,G,o,x0,x1,nx,H,hm,hv,hz,ho,h=>by
   have ho:nT L (ps L m) a k=some o:=ho;unfold nT at ho;refine Wq.jmp (SK ..) (λ_=>rfl) ?_;refine Sq.XO h λH1 av h1=> ?_;cases hb:js L k with
   | true=>
     rw[if_pos hb]at ho;simp only[ab,iu (h1.at_ 1 rfl) hv.len];refine Sq.call (ha m (Nat.lt_succ_self m)) rfl h1 ho λc k' H5 nx5 _ ho h5=> ?_;simp only[ab,iu (h5.at_ 1 rfl) hv.len,bf];refine Hq.yD cs c.cs hv.len c.len h5 λx H6 nx6 h6=> ?_;simp only[ab,jP];refine Hq.set [_,_] h6 cj hv.len rfl rfl λH7 h7=> ?_
     exact QA hL m (λj hj=>ha j (by omega)) _ k' (n+1) _ z ((x,cs++c.cs,44)::G) o x0 x1 nx6 H7 (by omega) (gm.b2 hv) hz ho (Hp.yG h7)
   | false=>
     rw[if_neg (by rw[hb];simp)]at ho;simp only[ab,iu (h1.at_ 1 rfl) hv.len];have h3:Hp nx0 H0 (cQ bp L k::(x0,z,44)::(G++F)) H1 av:=(Hp.mv [_] h1).sub (by simp);exact Hq.fin h3 cj dN gI hz hv.len hv.one hv.fz (by omega) λH5 nx5 h5=>End.ret ho rfl h5
theorem WI (hL:L.length<=100000){n:Nat}(hn:n<=90000)(ha:∀j,j<=n->bn 93 L aq.v (ps L j).atom)(hu:bn 83 L aq.v (ps L n).un):bn 83 L aq.v (ps L (n+1)).un:=by
 intro nx0 nx H0 H bp F k o ho h;have ho:A3 L (ps L n) k=some o:=ho;unfold A3 at ho;rw[q83];refine Hq.alloc bI h λx0 H1 av h1=> ?_;refine Sq.op h1 λH2 nx2 h2=> ?_;have J:∀(bb:Bool) H3 nx3,unOp L k=bb->Hp nx0 H0 (cQ bp L k::(x0,[i64 0,i64 0,au [],aw,aw,aw],44)::F) H3 nx3->aF P pl X0 (.jump (EN (ptr bp) (ptr x0) (au (if ko L k=true then(tk L k).s else[])) bb H3 nx3)) nx0 H0 (End nx0 H0 bp L F aq.v o):=by
  intro bb H3 nx3 hbb h3;refine Wq.jmp (VJ ..) (λ_=>rfl) ?_;cases bb with
  | true=>
    rw[if_pos hbb]at ho;have hW:ko L k=true:=by
     unfold unOp at hbb;rw[Bool.and_eq_true]at hbb;exact hbb.1
    rw[if_pos hW];simp only[ab,pk h3,fP hL (KO hW)];refine eh h3 λH4 h4=> ?_;refine Sq.call hu rfl h4 ho λa k' H5 nx5 _ ho h5=> ?_;refine Hq.gL a.cs a.len h5 λx H6 nx6 h6=> ?_;simp only[ab,yE];have h7:Hp nx0 H0 (cQ bp L k'::(x0,_,44)::([(x,a.cs,44)]++F)) H6 nx6:=Hp.swap' h6;exact Hq.fin h7 cj dN gI rfl rfl rfl (gm.b1 (gm.of a)).fz (by omega) λH5 nx5 h5=>End.ret ho rfl h5
  | false=>
    rw[if_neg (by rw[hbb];simp)]at ho;simp only[ab];refine Sq.call (ha n (Nat.le_refl n)) rfl h3 ho λa k' H5 nx5 _ ho h5=> ?_;refine Hq.alloc bI h5 λx1 H6 nx6 h6=> ?_;refine Hq.set [_] h6 cj rfl a.len (gm.of a).one λH7 h7=> ?_
    exact QA hL (n+1) (λj hj=>ha j (by omega)) a k' 0 _ _ [] o x0 x1 nx6 H7 (by omega) (gm.of a) rfl ho h7
 have hop:unOp L k=(!decide ((if ko L k=true then(tk L k).s else[])=[])&&cX.contains (if ko L k=true then(tk L k).s else[])):=by
  unfold unOp;cases ko L k with
  | false=>simp
  | true=>
    rw[Bool.true_and,if_pos rfl]
    by_cases hs:(tk L k).s=[]
    . rw[hs];decide +kernel
    . simp[hs]
 simp only[ab,XN];refine Wq.bK (λhw=> ?_) (λhw=> ?_)
 . simp only[ab,B9];refine Hq.qK (E8 _) h2 λH3 nx3 h3=> ?_;simp only[ab];exact J _ H3 nx3 (by rw[hop,hw,Bool.true_and]) h3
 . exact J false H2 nx2 (by rw[hop,hw,Bool.false_and]) h2
end
section
variable {nx0 nx nx' bp k:Nat}{H0 H H':T OB}{F A B G G':List Bx}{s:Bx}{R:Go.Ev.Out->T OB->Nat->Prop}{b:Nat}{l:List Value}{e t:TypeId}{L:List Tok}
theorem KP (hL:L.length<=100000){sep:List UInt8}{kd:Int}:∀(m:Nat),(∀j,j<m->bn 47 L aq.v (ps L j).exp)->∀(l:List aq) (k:Nat) (sl:Value) (G:List Bx) (o:kn aq) (y z:List Value) (x0 x1 x2 nx:Nat) (H:Go.Ev.T OB),l.length+m<=90010->Gw true 6 44 (l.map aq.v) sl G->y.length=6->z.length=6->
 bd ((ps L m).cU sep (.mk kd 0 [] l [] []) k) (λe k=>aQ L [41] k λk=>yes e k)=some o->Hp nx0 H0 (cQ bp L k::(x2,[i64 kd,i64 0,au [],sl,aw,aw],44)::(x1,y,44)::(x0,z,44)::(G++F)) H nx->
 aF P pl X0 (.jump (yi (ptr bp) (ptr x0) (ptr x1) (aa (.agg ⟨[au sep,i64 kd]⟩)) (ptr x2) H nx)) nx0 H0 (End nx0 H0 bp L F aq.v o)
 | 0,_,l,k,sl,G,o,y,z,x0,x1,x2,nx,H,hm,hG,hy,hz,ho,h=>by cases ho
 | m+1,he,l,k,sl,G,o,y,z,x0,x1,x2,nx,H,hm,hG,hy,hz,ho,h=>by
   have ho:bd (kp L (ps L m) sep (.mk kd 0 [] l [] []) k) (λe k=>aQ L [41] k λk=>yes e k)=some o:=ho;unfold kp at ho;refine Wq.jmp (SU ..) (λ_=>rfl) ?_;simp only[ab];refine Sq.take hL h (λhi H1 av h1=> ?_) (λhi H1 av h1=> ?_)
   . rw[if_pos hi,jl]at ho;simp only[ab,ah (off:=3) (u:=sl) (h1.at_ 1 rfl) jT rfl];refine Sq.call (he m (Nat.lt_succ_self m)) rfl h1 ho λc k' H2 nx2 _ ho2 h2=> ?_;simp only[ab,ah (off:=3) (u:=sl) (h2.at_ 1 rfl) jT rfl,bf];refine Hq.gL c.cs c.len h2 λx H3 nx3 h3=> ?_;simp only[ab,ah (off:=3) (u:=sl) (h3.at_ 2 rfl) jT rfl,bf];refine Hq.KH [_,_,_] (x:=c) (by omega) hG h3 λsl' G' H4 nx4 hG' h4=> ?_;refine Hq.put [_] h4 Ew (by rcases hG'.2 with⟨_,rfl,_⟩ | ⟨b,c,rfl,_⟩<;>rfl) (fL hG') (by simp) rfl λH5 h5=> ?_;exact KP hL m (λj hj=>he j (by omega)) (l++[c]) k' sl' G' o y z x0 x1 x2 nx4 H5 (by rw[List.length_append];simp;omega) hG' hy hz ho2 h5
   . rw[if_neg (by rw[hi];simp),fy]at ho;have hv:gm 1 [i64 kd,i64 0,au [],sl,aw,aw] (.mk kd 0 [] l [] []) G:=gm.gw hG;simp only[ab,iu (h1.at_ 1 rfl) hv.len];refine Hq.set [_,_] h1 cj hy hv.len hv.one λH2 h2=> ?_
     refine Sq.lO hL h2 ho λH3 nx3 _ ho h3=> ?_;simp only[ab,iu (h3.at_ 2 rfl) hv.len];have h4:Hp nx0 H0 (cQ bp L (k+1)::(x0,z,44)::(G++F)) H3 nx3:=(Hp.mv [_,_] h3).sub (by simp);exact Hq.fin h4 cj dN gI hz hv.len hv.one hv.fz (by omega) λH5 nx5 h5=>End.ret ho rfl h5
theorem KQ:cC P 146 (some (.agg ⟨[au [44],i64 5,au [59],i64 13]⟩)) (some (i64 0))=some (.agg ⟨[au [44],i64 5]⟩):=by kernel_rfl
theorem KR:cC P 146 (some (.agg ⟨[au [44],i64 5,au [59],i64 13]⟩)) (some (i64 1))=some (.agg ⟨[au [59],i64 13]⟩):=by kernel_rfl
theorem Hq.KS {w:List UInt8}{i:Int}{kt:Go.Ev.T OB->Nat->Q}(h:Hp nx0 H0 F H nx)(hk:∀H' nx',Hp nx0 H0 F H' nx'->aF P pl X0 (kt H' nx') nx0 H0 R):aF P pl X0 (aR (cD P H nx 145) λp H nx=>cV P H nx 145 (some p) (.agg ⟨[au w,i64 i]⟩) kt) nx0 H0 R:=Hq.var IS RA rfl rfl rfl h hk
theorem WJ (hL:L.length<=100000){n:Nat}(hn:n<=90000)(he:∀j,j<=n->bn 47 L aq.v (ps L j).exp){a:aq}{z:List Value}{x0 x1:Nat}{o:kn aq}(hz:z.length=6)
 (ho:(if bP L k [44]=true then bd (kp L (ps L n) [44] (.mk 5 0 [] [a] [] []) k) λe k=>aQ L [41] k λk=>yes e k
 else if bP L k [59]=true then bd (kp L (ps L n) [59] (.mk 13 0 [] [a] [] []) k) λe k=>aQ L [41] k λk=>yes e k
 else aQ L [41] k λk=>yes a k)=some o) (h:Hp nx0 H0 (cQ bp L k::(x1,a.cs,44)::(x0,z,44)::F) H nx):
 aF P pl X0 (.jump (yh (ptr bp) (ptr x0) (ptr x1) (.agg ⟨[au [44],i64 5,au [59],i64 13]⟩) (i64 0) H nx)) nx0 H0 (End nx0 H0 bp L F aq.v o):=by
 refine Wq.jmp (BZ ..) (λ_=>rfl) ?_;simp only[ab,KQ,Int.reduceLT];refine Hq.KS h λH1 av h1=> ?_;refine Sq.is h1 λH2 nx2 h2=> ?_;cases hc:bP L k [44]with
 | true=>
   rw[if_pos hc]at ho;simp only[ab,iu (h2.at_ 1 rfl) a.len];refine Hq.gL a.cs a.len h2 λx H3 nx3 h3=> ?_;simp only[ab,jP];refine Hq.alloc bI h3 λx2 H4 nx4 h4=> ?_;refine Hq.set [_] h4 cj rfl rfl rfl λH5 h5=> ?_
   have h6:Hp nx0 H0 (cQ bp L k::(x2,_,44)::(x1,a.cs,44)::(x0,z,44)::([(x,a.cs,44)]++F)) H5 nx4:=h5.perm (List.Perm.cons _ (List.Perm.cons _ ((List.Perm.swap _ _ _).trans (List.Perm.cons _ (List.Perm.swap _ _ _)))));exact KP hL (n+1) (λj hj=>he j (by omega)) [a] k (j5 x 1 1) [(x,a.cs,44)] o _ z x0 x1 x2 nx4 H5 (show 1+(n+1)<=90010 by omega) (Gw.q_ a.iI) a.len hz ho h6
 | false=>
   rw[if_neg (by rw[hc];simp)]at ho;simp only[ab];refine Wq.jmp (JF ..) (λ_=>rfl) ?_;simp only[ab,Int.reduceAdd,show IntKind.i64.wrap 1=1 from rfl];refine Wq.jmp (BZ ..) (λ_=>rfl) ?_;simp only[ab,KR,Int.reduceLT];refine Hq.KS h2 λH3 nx3 h3=> ?_;refine Sq.is h3 λH4 nx4 h4=> ?_;cases hc2:bP L k [59]with
   | true=>
     rw[if_pos hc2]at ho;simp only[ab,iu (h4.at_ 1 rfl) a.len];refine Hq.gL a.cs a.len h4 λx H5 nx5 h5=> ?_;simp only[ab,jP];refine Hq.alloc bI h5 λx2 H6 nx6 h6=> ?_;refine Hq.set [_] h6 cj rfl rfl rfl λH7 h7=> ?_
     have h8:Hp nx0 H0 (cQ bp L k::(x2,_,44)::(x1,a.cs,44)::(x0,z,44)::([(x,a.cs,44)]++F)) H7 nx6:=h7.perm (List.Perm.cons _ (List.Perm.cons _ ((List.Perm.swap _ _ _).trans (List.Perm.cons _ (List.Perm.swap _ _ _)))));exact KP hL (n+1) (λj hj=>he j (by omega)) [a] k (j5 x 1 1) [(x,a.cs,44)] o _ z x0 x1 x2 nx6 H7 (show 1+(n+1)<=90010 by omega) (Gw.q_ a.iI) a.len hz ho h8
   | false=>
     rw[if_neg (by rw[hc2];simp)]at ho;simp only[ab];refine Wq.jmp (JF ..) (λ_=>rfl) ?_;simp only[ab,Int.reduceAdd,show IntKind.i64.wrap 2=2 from rfl];refine Wq.jmp (BZ ..) (λ_=>rfl) ?_;simp only[ab,Int.reduceLT];refine Sq.lO hL h4 ho λH5 nx5 _ ho h5=> ?_;simp only[ab,iu (h5.at_ 1 rfl) a.len];exact Hq.Cj (Hp.oU h5) hz λH9 nx9 h9=>End.ret ho rfl h9
theorem WK (hL:L.length<=100000){n:Nat}(hn:n<=90000)(he:∀j,j<=n->bn 47 L aq.v (ps L j).exp)(hlt:bn 96 L aq.v (ps L n).lt):bn 93 L aq.v (ps L (n+1)).atom:=by
 intro nx0 nx H0 H bp F k o ho h;have ho:fK L (ps L n) k=some o:=ho;unfold fK at ho;rw[q93];refine Hq.alloc bI h λx0 H1 av h1=> ?_;refine Sq.now h1 λH2 nx2 h2=> ?_;refine Sq.Ng h2 λH3 nx3 h3=> ?_;simp only[ab];refine Wq.ite (λhi=> ?_) (λhi=> ?_)
 . rw[if_pos hi]at ho;simp only[ab,pk h3,fP hL (gQ (show(tk L k).k≠0 by omega))];refine eh h3 λH4 h4=> ?_;simp only[ab,NN];exact Hq.fin (G:=[]) h4 cj dN gI rfl rfl rfl gm.nil.fz (by omega) λH5 nx5 h5=>End.ret ho rfl h5
 rw[if_neg hi]at ho;refine Wq.ite (λhi=> ?_) (λhi=> ?_)
 . rw[if_pos hi]at ho;simp only[ab,pk h3,fP hL (gQ (show(tk L k).k≠0 by omega))];refine eh h3 λH4 h4=> ?_;simp only[ab,yF];exact Hq.fin (G:=[]) h4 cj dN gI rfl rfl rfl gm.nil.fz (by omega) λH5 nx5 h5=>End.ret ho rfl h5
 rw[if_neg hi]at ho;refine Wq.ite (λhi=> ?_) (λhi=> ?_)
 . rw[if_pos hi]at ho;simp only[ab,pk h3,fP hL (gQ (show(tk L k).k≠0 by omega))];refine eh h3 λH4 h4=> ?_;simp only[ab,yF];exact Hq.fin (G:=[]) h4 cj dN gI rfl rfl rfl gm.nil.fz (by omega) λH5 nx5 h5=>End.ret ho rfl h5
 rw[if_neg hi]at ho;refine Wq.ite (λhi=> ?_) (λhi=> ?_)
 . rw[if_pos hi]at ho;simp only[ab,pk h3,fP hL (gQ (show(tk L k).k≠0 by omega))];refine eh h3 λH4 h4=> ?_;simp only[ab,yF];exact Hq.fin (G:=[]) h4 cj dN gI rfl rfl rfl gm.nil.fz (by omega) λH5 nx5 h5=>End.ret ho rfl h5
 rw[if_neg hi]at ho;refine Sq.take hL h3 (λhi H4 nx4 h4=> ?_) (λhi H4 nx4 h4=> ?_)
 . rw[if_pos hi,<- qh ((ps L n).lt _)]at ho;simp only[ab];refine Sq.call hlt rfl h4 ho λa k' H5 nx5 _ ho h5=> ?_;exact Hq.Cj h5 rfl λH9 nx9 h9=>End.ret ho rfl h9
 rw[if_neg (by rw[hi];simp)]at ho;simp only[ab];refine Sq.lO hL h4 ho λH6 nx6 _ ho h6=> ?_;refine Sq.take hL h6 (λhi H7 nx7 h7=> ?_) (λhi H7 nx7 h7=> ?_)
 . rw[if_pos hi]at ho;simp only[ab];exact Hq.fin (G:=[]) h7 cj dN gI rfl rfl rfl gm.nil.fz (by omega) λH8 nx8 h8=>End.ret ho rfl h8
 rw[if_neg (by rw[hi];simp)]at ho;simp only[ab];refine Sq.call (he n (Nat.le_refl n)) rfl h7 ho λa k' H8 nx8 _ ho h8=> ?_;refine Hq.alloc bI h8 λx1 H9 nx9 h9=> ?_;refine Hq.set [_] h9 cj rfl a.len (gm.of a).one λH10 h10=> ?_
 exact WJ hL hn he rfl ho h10
end
section
variable {nx0 nx nx' bp k:Nat}{H0 H H':T OB}{F A B G G':List Bx}{s:Bx}{R:Go.Ev.Out->T OB->Nat->Prop}{b:Nat}{l:List Value}{e t:TypeId}{L:List Tok}
def re (d:Option aG):Value:= .tuple ⟨[(d.getD GJ).v,.bool d.isSome]⟩
theorem gm.Yr {n:Nat}{cs:List Value}{a:aq}{ds:List aG}{sd:Value}(h:gm n cs a G)(hd:Gw true 17 54 (ds.map aG.v) sd G'):gm (n+1) [i64 10,i64 0,au [],j5 b 1 1,aw,sd] (.mk 10 0 [] [a] [] ds) ((b,cs,44)::G++G'):=by
 have h1:=dA.er (t:=42) (b:=b) gh cj dN rfl gI h.iI (.inr rfl) (by simp) (km.one h.fz) (λu hu=>by rw[List.mem_singleton]at hu;subst hu;exact a.len);rw[jk cs]at h1;exact gm.row h1 mu (hd.Yp.mono (by omega)) rfl rfl (fL hd)
theorem QB (hL:L.length<=100000){n:Nat}{cs z:List Value}{a:aq}{ds:List aG}{sd:Value}{x0 x1 x2:Nat}{o:kn aq}(hv:gm n cs a G)(hn:n<=90010)(hd:Gw true 17 54 (ds.map aG.v) sd G')(hz:z.length=6)(ho:aQ L [101,110,100] k (λk=>yes (.mk 10 0 [] [a] [] ds) k)=some o)
 (h:Hp nx0 H0 (cQ bp L k::(x2,cs,44)::(x1,[i64 10,i64 0,au [],aw,aw,sd],44)::(x0,z,44)::(G++(G'++F))) H nx):aF P pl X0 (aI P pl (B1 (ptr bp) (ptr x0) (ptr x1) (ptr x2) H nx)) nx0 H0 (End nx0 H0 bp L F aq.v o):=by
 rw[JG];refine Sq.lO hL h ho λH1 av _ ho h1=> ?_;simp only[ab,iu (h1.at_ 1 rfl) hv.len];refine Hq.gL cs hv.len h1 λx H2 nx2 h2=> ?_;refine Hq.put [_,_,_] h2 Ew rfl rfl (by simp) rfl λH3 h3=> ?_;simp only[ab,iu (h3.at_ 3 rfl) rfl];have hl:=gm.Yr (b:=x) hv hd;have h4:Hp nx0 H0 (cQ bp L (k+1)::(x0,z,44)::(((x,cs,44)::G++G')++F)) H3 nx2:=by
  rw[List.cons_append,List.cons_append,List.append_assoc];exact(Hp.mv [_,_,_] h3).sub (by simp)
 exact Hq.fin h4 cj dN gI hz hl.len hl.one hl.fz (by omega) λH5 nx5 h5=>End.ret ho rfl h5
theorem QC (hL:L.length<=100000){ds:List aG}{sd:Value}(hd:Gw true 17 54 (ds.map aG.v) sd G'):∀(m:Nat),(∀j,j<m->bn 47 L aq.v (ps L j).exp)->∀(l:List aq) (k:Nat) (sl:Value) (G:List Bx) (o:kn aq) (z:List Value) (x0 x1 x2 nx:Nat) (H:Go.Ev.T OB),l.length+m<=90010->Gw true 6 44 (l.map aq.v) sl G->z.length=6->
 bd ((ps L m).cU [59] (.mk 13 0 [] l [] []) k) (λa k=>aQ L [101,110,100] k λk=>yes (.mk 10 0 [] [a] [] ds) k)=some o->Hp nx0 H0 (cQ bp L k::(x2,[i64 13,i64 0,au [],sl,aw,aw],44)::(x1,[i64 10,i64 0,au [],aw,aw,sd],44)::(x0,z,44)::(G++(G'++F))) H nx->
 aF P pl X0 (.jump (yj (ptr bp) (ptr x0) (ptr x1) (ptr x2) H nx)) nx0 H0 (End nx0 H0 bp L F aq.v o)
 | 0,_,l,k,sl,G,o,z,x0,x1,x2,nx,H,hm,hG,hz,ho,h=>by cases ho
 | m+1,he,l,k,sl,G,o,z,x0,x1,x2,nx,H,hm,hG,hz,ho,h=>by
   have ho:bd (kp L (ps L m) [59] (.mk 13 0 [] l [] []) k) (λa k=>aQ L [101,110,100] k λk=>yes (.mk 10 0 [] [a] [] ds) k)=some o:=ho;unfold kp at ho;refine Wq.jmp (SX ..) (λ_=>rfl) ?_;refine Sq.take hL h (λhi H1 av h1=> ?_) (λhi H1 av h1=> ?_)
   . rw[if_pos hi,jl]at ho;simp only[ab,ah (off:=3) (u:=sl) (h1.at_ 1 rfl) jT rfl];refine Sq.call (he m (Nat.lt_succ_self m)) rfl h1 ho λc k' H2 nx2 _ ho2 h2=> ?_;simp only[ab,ah (off:=3) (u:=sl) (h2.at_ 1 rfl) jT rfl,bf];refine Hq.gL c.cs c.len h2 λx H3 nx3 h3=> ?_;simp only[ab,ah (off:=3) (u:=sl) (h3.at_ 2 rfl) jT rfl,bf];refine Hq.KH [_,_,_] (x:=c) (by omega) hG h3 λsl' G1 H4 nx4 hG1 h4=> ?_;refine Hq.put [_] h4 Ew (by rcases hG1.2 with⟨_,rfl,_⟩ | ⟨b,c,rfl,_⟩<;>rfl) (fL hG1) (by simp) rfl λH5 h5=> ?_;exact QC hL hd m (λj hj=>he j (by omega)) (l++[c]) k' sl' G1 o z x0 x1 x2 nx4 H5 (by rw[List.length_append];simp;omega) hG1 hz ho2 h5
   . rw[if_neg (by rw[hi];simp),fy]at ho;simp only[ab];have:=QB hL (gm.gw (k:=13) (i:=0) (w:=[]) hG) (by omega) hd hz ho h1;rw[JG]at this;exact this
theorem Hq.Ys {a:aG}{kt:Go.Ev.T OB->Nat->Q}(h:Hp nx0 H0 F H nx)(hk:∀H' nx',Hp nx0 H0 F H' nx'->aF P pl X0 (kt H' nx') nx0 H0 R):aF P pl X0 (aR (cD P H nx 54) λp H nx=>cV P H nx 54 (some p) a.v kt) nx0 H0 R:=Hq.var dx fJ rfl a.len (a.iI a.v (by simp)).2.1 h hk
theorem ldD (a:aG):ai P H 54 (some (aa a.v))=some a.v:=by
 rw[aG.aW];exact IC ..
theorem QD (hL:L.length<=100000){n:Nat}(hn:n<=90000)(he:∀j,j<=n->bn 47 L aq.v (ps L j).exp):∀(m:Nat),(∀j,j<m->bn 61 L re (ps L j).bind)->∀(ds:List aG) (k:Nat) (sd:Value) (G':List Bx) (o:kn aq) (z:List Value) (x0 x1 nx:Nat) (H:Go.Ev.T OB),ds.length+m<=90010->Gw true 17 54 (ds.map aG.v) sd G'->z.length=6->
 bd ((ps L m).iD ds k) (λds k=>bd ((ps L n).exp k) λa k=>
  if bP L k [59]=true then bd (kp L (ps L n) [59] (.mk 13 0 [] [a] [] []) k) λa k=>aQ L [101,110,100] k λk=>yes (.mk 10 0 [] [a] [] ds) k
  else aQ L [101,110,100] k λk=>yes (.mk 10 0 [] [a] [] ds) k)=some o->Hp nx0 H0 (cQ bp L k::(x1,[i64 10,i64 0,au [],aw,aw,sd],44)::(x0,z,44)::(G'++F)) H nx->
 aF P pl X0 (.jump (ET (ptr bp) (ptr x0) (ptr x1) H nx)) nx0 H0 (End nx0 H0 bp L F aq.v o)
 | 0,_,ds,k,sd,G',o,z,x0,x1,nx,H,hm,hd,hz,ho,h=>by cases ho
 | m+1,hb,ds,k,sd,G',o,z,x0,x1,nx,H,hm,hd,hz,ho,h=>by
   have ho:bd (m4 L (ps L m) ds k) (λds k=>bd ((ps L n).exp k) λa k=>
    if bP L k [59]=true then bd (kp L (ps L n) [59] (.mk 13 0 [] [a] [] []) k) λa k=>aQ L [101,110,100] k λk=>yes (.mk 10 0 [] [a] [] ds) k
    else aQ L [101,110,100] k λk=>yes (.mk 10 0 [] [a] [] ds) k)=some o:=ho
   unfold m4 at ho;refine Wq.jmp (VO ..) (λ_=>rfl) ?_;refine Sq.take hL h (λhi H1 av h1=> ?_) (λhi H1 av h1=> ?_)
   . rw[if_pos hi,fy]at ho;simp only[ab];refine Sq.call (he n (Nat.le_refl n)) rfl h1 ho λa k' H2 nx2 _ ho h2=> ?_;refine Hq.alloc bI h2 λx2 H3 nx3 h3=> ?_;refine Hq.set [_] h3 cj rfl a.len (gm.of a).one λH4 h4=> ?_
     refine Sq.is h4 λH5 nx5 h5=> ?_;cases hc:bP L k' [59]with
     | true=>
       rw[if_pos hc]at ho;simp only[ab,iu (h5.at_ 1 rfl) a.len];refine Hq.gL a.cs a.len h5 λx H6 nx6 h6=> ?_;simp only[ab,jP];refine Hq.set [_,_] h6 cj a.len rfl rfl λH7 h7=> ?_
       have h8:Hp nx0 H0 (cQ bp L k'::(x2,_,44)::(x1,_,44)::(x0,z,44)::([(x,a.cs,44)]++(G'++F))) H7 nx6:=h7.perm (List.Perm.cons _ ((List.Perm.swap _ _ _).trans (List.Perm.cons _ ((List.Perm.swap _ _ _).trans (List.Perm.cons _ (List.Perm.swap _ _ _))))));exact QC hL hd (n+1) (λj hj=>he j (by omega)) [a] k' (j5 x 1 1) [(x,a.cs,44)] o z x0 x1 x2 nx6 H7 (show 1+(n+1)<=90010 by omega) (Gw.q_ a.iI) hz ho h8
     | false=>
       rw[if_neg (by rw[hc];simp)]at ho;simp only[ab];exact Wq.jump (λ_=>rfl) (QB (n:=0) (G:=[]) hL (gm.of a) (by omega) hd hz ho h5)
   . rw[if_neg (by rw[hi];simp),jl]at ho;simp only[ab];refine Sq.call (hb m (Nat.lt_succ_self m)) rfl h1 ho λd k' H2 nx2 _ ho h2=> ?_;unfold re;simp only[ab,Mh,Mi];refine Hq.Ys h2 λH3 nx3 h3=> ?_;cases d with
     | none=>
       simp only[ab,Option.isSome_none,Bool.not_false];exact Sq.fail (α:=aq) (β:=aq) (o:=o) (by cases ho;rfl) h3
     | some d=>
       simp only[ab,Option.isSome_some,Bool.not_true,Option.getD_some];refine Wq.jmp (SW ..) (λ_=>rfl) ?_;simp only[ab,ah (off:=5) (u:=sd) (h3.at_ 1 rfl) ma rfl,ldD];refine Hq.Fi d.cs d.len h3 λx H4 nx4 h4=> ?_;refine Hq.Wu [_,_] (x:=d) (by omega) hd h4 λsd' G2 H5 nx5 hd' h5=> ?_;refine Hq.put [_] h5 vb (by rcases hd'.2 with⟨_,rfl,_⟩ | ⟨b,c,rfl,_⟩<;>rfl) (fL hd') (by simp) rfl λH6 h6=> ?_;refine Sq.skip hL h6 λbb H7 nx7 h7=> ?_;simp only[ab];exact QD hL hn he m (λj hj=>hb j (by omega)) (ds++[d]) _ sd' G2 o z x0 x1 nx7 H7 (by rw[List.length_append];simp;omega) hd' hz ho h7
theorem WL (hL:L.length<=100000){n:Nat}(hn:n<=90000)(he:∀j,j<=n->bn 47 L aq.v (ps L j).exp)(hb:∀j,j<=n->bn 61 L re (ps L j).bind):bn 96 L aq.v (ps L (n+1)).lt:=by
 intro nx0 nx H0 H bp F k o ho h;have ho:Hy L (ps L n) k=some o:=ho;unfold Hy at ho;rw[q96];refine Hq.alloc bI h λx0 H1 av h1=> ?_;refine Hq.alloc bI h1 λx1 H2 nx2 h2=> ?_;refine Hq.set [_] h2 cj rfl rfl rfl λH3 h3=> ?_
 exact QD hL hn he (n+1) (λj hj=>hb j (by omega)) [] k aw [] o _ x0 x1 nx2 H3 (by simp;omega) (Gw.nil _ _ _) rfl ho h3
end
section
variable {nx0 nx nx' bp k:Nat}{H0 H H':T OB}{F A B G G':List Bx}{s:Bx}{R:Go.Ev.Out->T OB->Nat->Prop}{b:Nat}{l:List Value}{e t:TypeId}{L:List Tok}
theorem Fn.ng {w:List UInt8}{q:List aB}{e:aq}{sp:Value}(hG:Gw true 4 41 (q.map aB.v) sp G):iO 1 [(1,39),(5,42),(6,39),(7,23)] (.agg ⟨au w::sp::e.cs⟩) (Fn.v (.mk w q e)) G:=by
 rw[Fn.aW,aq.fe];have h1:=hG.TQ;have:=fZ.cons (p:=(1,39)) (cs:=[au w,sp,i64 e.k,i64 e.n,au e.s,eB e.l,bL e.p,ca e.d]) rfl h1 (fZ.cons (p:=(5,42)) rfl ((dA.row gh).mono (Nat.zero_le 1)) (fZ.cons (p:=(6,39)) rfl ((dA.row eX).mono (Nat.zero_le 1)) (fZ.cons (p:=(7,23)) rfl ((dA.row iA).mono (Nat.zero_le 1)) fZ.nil)));simp only[List.append_nil]at this;exact iO.of this
theorem QE (hL:L.length<=100000){E:Nat->PR aq}(he:bn 47 L aq.v E){w:List UInt8}:∀(m:Nat),(∀j,j<m->bn 92 L aB.v (ps L j).cm)->∀(q:List aB) (k:Nat) (sp:Value) (G:List Bx) (o:kn Fn) (z:List Value) (x0 x1 nx:Nat) (H:Go.Ev.T OB),q.length+m<=90010->Gw true 4 41 (q.map aB.v) sp G->z.length=8->
 bd ((ps L m).tH q k) (λl k=>aQ L [61] k λk=>bd (E k) λe k=>yes (.mk w l e) k)=some o->Hp nx0 H0 (cQ bp L k::(x1,[au w,sp,i64 0,i64 0,au [],aw,aw,aw],64)::(x0,z,64)::(G++F)) H nx->
 aF P pl X0 (.jump (EM (ptr bp) (ptr x0) (ptr x1) H nx)) nx0 H0 (End nx0 H0 bp L F Fn.v o)
 | 0,_,q,k,sp,G,o,z,x0,x1,nx,H,hm,hG,hz,ho,h=>by cases ho
 | m+1,hp,q,k,sp,G,o,z,x0,x1,nx,H,hm,hG,hz,ho,h=>by
   have ho:bd (m5 L (ps L m) q k) (λl k=>aQ L [61] k λk=>bd (E k) λe k=>yes (.mk w l e) k)=some o:=ho;unfold m5 at ho;refine Wq.jmp (VI ..) (λ_=>rfl) ?_;refine Sq.Wf h λH1 av h1=> ?_;cases hb:jZ L k with
   | true=>
     rw[if_pos hb,jl]at ho;simp only[ab,ah (off:=1) (u:=sp) (h1.at_ 1 rfl) iB rfl];refine Sq.call (hp m (Nat.lt_succ_self m)) rfl h1 ho λc k' H2 nx2 _ ho2 h2=> ?_;simp only[ab,ah (off:=1) (u:=sp) (h2.at_ 1 rfl) iB rfl,bf];refine Hq.lh c.cs c.len h2 λx H3 nx3 h3=> ?_;simp only[ab,ah (off:=1) (u:=sp) (h3.at_ 2 rfl) iB rfl,bf];refine Hq.KI [_,_] (x:=c) (by omega) hG h3 λsl' G1 H4 nx4 hG1 h4=> ?_;refine Hq.put [_] h4 Eu (by rcases hG1.2 with⟨_,rfl,_⟩ | ⟨b,c,rfl,_⟩<;>rfl) (fL hG1) (by simp) rfl λH5 h5=> ?_;exact QE hL he m (λj hj=>hp j (by omega)) (q++[c]) k' sl' G1 o z x0 x1 nx4 H5 (by rw[List.length_append];simp;omega) hG1 hz ho2 h5
   | false=>
     rw[if_neg (by rw[hb];simp),fy]at ho;simp only[ab];refine Sq.lO hL h1 ho λH2 nx2 _ ho h2=> ?_;refine Sq.call he rfl h2 ho λc k' H3 nx3 _ ho h3=> ?_;refine Hq.store [_] h3 cj (by simp) c.len (gm.of c).one λH4 h4=> ?_;have e1:jD [au w,sp,i64 0,i64 0,au [],aw,aw,aw] (aq.v c).cells.toList 2=au w::sp::c.cs:=by
      rw[aq.aW,aq.fe];rfl
     rw[e1]at h4;have hlen:(au w::sp::c.cs).length=8:=by
      have:=c.len;simp only[List.length_cons];show c.cs.length+1+1=8;have h6:c.cs.length=6:=c.len;omega
     have hone:(au w::sp::c.cs).all aj=true:=by
      simp only[List.all_cons,l9,fL hG,Bool.true_and];exact(gm.of c).one
     simp only[ab,Wy (h4.at_ 1 rfl) hlen];have h5:Hp nx0 H0 (cQ bp L k'::(x0,z,64)::(G++F)) H4 nx3:=(Hp.mv [_] h4).sub (by simp);exact Hq.fin h5 mc BN Qn hz hlen hone (Fn.ng hG) (by omega) λH9 nx9 h9=>End.ret ho rfl h9
theorem WM (hL:L.length<=100000){n:Nat}(hn:n<=90000)(hp:∀j,j<=n->bn 92 L aB.v (ps L j).cm)(he:bn 47 L aq.v (ps L n).exp):bn 81 L Fn.v (ps L (n+1)).fn:=by
 intro nx0 nx H0 H bp F k o ho h;have ho:HA L (ps L n) k=some o:=ho;unfold HA at ho;rw[q81];refine Hq.alloc hU h λx0 H1 av h1=> ?_;refine Sq.word (by decide) hL h1 ho λH2 nx2 _ ho h2=> ?_;simp only[ab];refine Sq.call (hp n (Nat.le_refl n)) rfl h2 ho λa k' H3 nx3 _ ho h3=> ?_;refine Hq.lh a.cs a.len h3 λx H4 nx4 h4=> ?_;simp only[ab,NQ];refine Hq.alloc hU h4 λx1 H5 nx5 h5=> ?_;refine Hq.set [_] h5 mc rfl rfl rfl λH6 h6=> ?_
 have h7:Hp nx0 H0 (cQ bp L k'::(x1,_,64)::(x0,_,64)::([(x,a.cs,41)]++F)) H6 nx5:=h6.perm (List.Perm.cons _ (List.Perm.cons _ (List.Perm.swap _ _ _)));exact QE hL he (n+1) (λj hj=>hp j (by omega)) [a] k' (j5 x 1 1) [(x,a.cs,41)] o _ x0 x1 nx5 H6 (show 1+(n+1)<=90010 by omega) (Gw.q_ a.iI) rfl ho h7
end
section
variable {nx0 nx nx' bp k:Nat}{H0 H H':T OB}{F A B G G':List Bx}{s:Bx}{R:Go.Ev.Out->T OB->Nat->Prop}{b:Nat}{l:List Value}{e t:TypeId}{L:List Tok}
theorem AI {n:Nat}:dA n 45 aw (tB []) []:=(dA.nil s9 mc).mono (Nat.zero_le n)
theorem AJ {n:Nat}:dA n 46 aw (ml []) []:=(dA.nil s_ mX).mono (Nat.zero_le n)
theorem AK {n:Nat}:dA n 47 aw (oT []) []:=(dA.nil ta mb).mono (Nat.zero_le n)
theorem AL {n:Nat}:dA n 50 aw (fu []) []:=(dA.nil gE ej).mono (Nat.zero_le n)
theorem aG.ng {kk:Int}{p0 p1 p2 c0 c1 c2 w1 w2:Value}{s0 s1 s2 s3 s4 s5 s6 s7:Value}{d:aG}{r0 r1 r2 r3 r4 r5 r6 r7:Value}{n:Nat}{G4:List Bx}
 (h0:dA n 39 s0 r0 []) (h1:dA n 42 s1 r1 []) (h2:dA n 39 s2 r2 []) (h3:dA n 23 s3 r3 []) (h4:dA n 45 s4 r4 G4) (h5:dA n 46 s5 r5 []) (h6:dA n 47 s6 r6 []) (h7:dA n 50 s7 r7 [])
 (hd:d.v= .agg ⟨[i64 kk,p0,p1,p2,r0,c0,c1,c2,r1,r2,r3,r4,r5,w1,r6,w2,r7]⟩):iO n [(4,39),(8,42),(9,39),(10,23),(11,45),(12,46),(14,47),(16,50)] (.agg ⟨[i64 kk,p0,p1,p2,s0,c0,c1,c2,s1,s2,s3,s4,s5,w1,s6,w2,s7]⟩) d.v G4:=by
 rw[hd];have:=fZ.cons (p:=(4,39)) (cs:=[i64 kk,p0,p1,p2,s0,c0,c1,c2,s1,s2,s3,s4,s5,w1,s6,w2,s7]) rfl h0 (fZ.cons (p:=(8,42)) rfl h1 (fZ.cons (p:=(9,39)) rfl h2 (fZ.cons (p:=(10,23)) rfl h3 (fZ.cons (p:=(11,45)) rfl h4 (fZ.cons (p:=(12,46)) rfl h5 (fZ.cons (p:=(14,47)) rfl h6 (fZ.cons (p:=(16,50)) rfl h7 fZ.nil)))))));simp only[List.append_nil,List.nil_append]at this;exact iO.of this
theorem KT (k:Int)(a:aB)(c:aq):a9 P 54 (some [(0,i64 k),(1,a.v),(2,c.v)])=some (.agg ⟨[i64 k,i64 a.k,i64 a.n,au a.s,bL a.l,i64 c.k,i64 c.n,au c.s,eB c.l,bL c.p,ca c.d,aw,aw,au [],aw,au [],aw]⟩):=by
 rw[aB.aW,aq.aW];exact NS ..
theorem ldP (a:aB):ai P H 41 (some (aa a.v))=some a.v:=by
 rw[aB.aW];exact IA ..
theorem Hq.Yt {a:aB}{kt:Go.Ev.T OB->Nat->Q}(h:Hp nx0 H0 F H nx)(hk:∀H' nx',Hp nx0 H0 F H' nx'->aF P pl X0 (kt H' nx') nx0 H0 R):aF P pl X0 (aR (cD P H nx 41) λp H nx=>cV P H nx 41 (some p) a.v kt) nx0 H0 R:=Hq.var cR dj rfl a.len (kI.of a).one h hk
theorem aG.WN {a:aB}{c:aq}:iO 0 [(4,39),(8,42),(9,39),(10,23),(11,45),(12,46),(14,47),(16,50)] (.agg ⟨[i64 1,i64 a.k,i64 a.n,au a.s,bL a.l,i64 c.k,i64 c.n,au c.s,eB c.l,bL c.p,ca c.d,aw,aw,au [],aw,au [],aw]⟩) (aG.v (.mk 1 a c [] dF fO)) []:=
 aG.ng (dA.row eX) (dA.row gh) (dA.row eX) (dA.row iA) AI AJ AK AL (aG.aW _)
theorem aG.WO {l:List Fn}{sl:Value}(hG:Gw true 8 64 (l.map Fn.v) sl G):iO 1 [(4,39),(8,42),(9,39),(10,23),(11,45),(12,46),(14,47),(16,50)] (.agg ⟨[i64 2,i64 0,i64 0,au [],aw,i64 0,i64 0,au [],aw,aw,aw,sl,aw,au [],aw,au [],aw]⟩) (aG.v (.mk 2 f_ gk l dF fO)) G:=
 aG.ng mu AH mu vr hG.Yo AJ AK AL (aG.aW _)
theorem aG.TR:iO 0 [(4,39),(8,42),(9,39),(10,23),(11,45),(12,46),(14,47),(16,50)] (.agg ⟨[i64 0,i64 0,i64 0,au [],aw,i64 0,i64 0,au [],aw,aw,aw,aw,aw,au [],aw,au [],aw]⟩) GJ.v []:=
 aG.ng mu AH mu vr AI AJ AK AL (aG.aW _)
theorem QF (hL:L.length<=100000):∀(m:Nat),(∀j,j<m->bn 81 L Fn.v (ps L j).fn)->∀(l:List Fn) (k:Nat) (sl:Value) (G:List Bx) (o:kn (Option aG)) (z:List Value) (x0 x1 nx:Nat) (H:Go.Ev.T OB),l.length+m<=90010->Gw true 8 64 (l.map Fn.v) sl G->z.length=17->
 bd ((ps L m).ji l k) (λl k=>yes (some (.mk 2 f_ gk l dF fO)) k)=some o->Hp nx0 H0 (cQ bp L k::(x1,[i64 2,i64 0,i64 0,au [],aw,i64 0,i64 0,au [],aw,aw,aw,sl,aw,au [],aw,au [],aw],54)::(x0,z,54)::(G++F)) H nx->
 aF P pl X0 (.jump (xI (ptr bp) (ptr x0) (ptr x1) H nx)) nx0 H0 (End nx0 H0 bp L F re o)
 | 0,_,l,k,sl,G,o,z,x0,x1,nx,H,hm,hG,hz,ho,h=>by cases ho
 | m+1,hp,l,k,sl,G,o,z,x0,x1,nx,H,hm,hG,hz,ho,h=>by
   have ho:bd (nU L (ps L m) l k) (λl k=>yes (some (.mk 2 f_ gk l dF fO)) k)=some o:=ho;unfold nU at ho;refine Wq.jmp (Sn ..) (λ_=>rfl) ?_;refine Sq.take hL h (λhi H1 av h1=> ?_) (λhi H1 av h1=> ?_)
   . rw[if_pos hi,jl]at ho;simp only[ab,ah (off:=11) (u:=sl) (h1.at_ 1 rfl) wJ rfl];refine Sq.call (hp m (Nat.lt_succ_self m)) rfl h1 ho λc k' H2 nx2 _ ho2 h2=> ?_;simp only[ab,ah (off:=11) (u:=sl) (h2.at_ 1 rfl) wJ rfl,bf];refine Hq.Fh c.cs c.len h2 λx H3 nx3 h3=> ?_;simp only[ab,ah (off:=11) (u:=sl) (h3.at_ 2 rfl) wJ rfl,bf];refine Hq.Ws [_,_] (x:=c) (by omega) hG h3 λsl' G1 H4 nx4 hG1 h4=> ?_;refine Hq.put [_] h4 Vi (by rcases hG1.2 with⟨_,rfl,_⟩ | ⟨b,c,rfl,_⟩<;>rfl) (fL hG1) (by simp) rfl λH5 h5=> ?_;exact QF hL m (λj hj=>hp j (by omega)) (l++[c]) k' sl' G1 o z x0 x1 nx4 H5 (by rw[List.length_append];simp;omega) hG1 hz ho2 h5
   . rw[if_neg (by rw[hi];simp),fy]at ho;simp only[ab,Qt (h1.at_ 1 rfl) rfl];have h5:Hp nx0 H0 (cQ bp L k::(x0,z,54)::(G++F)) H1 av:=(Hp.mv [_] h1).sub (by simp);exact Hq.fin h5 fJ k_ qN hz rfl (by simp[fL hG]) (aG.WO hG) (by omega) λH9 nx9 h9=>End.ret ho rfl h9
theorem WQ (hL:L.length<=100000){n:Nat}(hn:n<=90000)(hp:bn 80 L aB.v (ps L n).pat)(he:bn 47 L aq.v (ps L n).exp)(hf:∀j,j<=n->bn 81 L Fn.v (ps L j).fn):bn 61 L re (ps L (n+1)).bind:=by
 intro nx0 nx H0 H bp F k o ho h;have ho:jN L (ps L n) k=some o:=ho;unfold jN at ho;rw[Z3];refine Hq.alloc dx h λx0 H1 av h1=> ?_;refine Sq.take hL h1 (λhi H2 nx2 h2=> ?_) (λhi H2 nx2 h2=> ?_)
 . rw[if_pos hi]at ho;simp only[ab];refine Sq.call hp rfl h2 ho λa k' H3 nx3 _ ho h3=> ?_;refine Hq.Yt h3 λH4 nx4 h4=> ?_;refine Sq.lO hL h4 ho λH5 nx5 _ ho h5=> ?_;simp only[ab,ldP];refine Sq.call he rfl h5 ho λc k2 H6 nx6 _ ho h6=> ?_;simp only[ab,KT];exact Hq.fin (G:=[]) h6 fJ k_ qN rfl rfl rfl aG.WN (by omega) λH9 nx9 h9=>End.ret ho rfl h9
 rw[if_neg (by rw[hi];simp)]at ho;simp only[ab];refine Sq.take hL h2 (λhi H3 nx3 h3=> ?_) (λhi H3 nx3 h3=> ?_)
 . rw[if_pos hi]at ho;simp only[ab];refine Sq.call (hf n (Nat.le_refl n)) rfl h3 ho λa k' H4 nx4 _ ho h4=> ?_;refine Hq.Fh a.cs a.len h4 λx H5 nx5 h5=> ?_;simp only[ab,NR];refine Hq.alloc dx h5 λx1 H6 nx6 h6=> ?_;refine Hq.set [_] h6 fJ rfl rfl rfl λH7 h7=> ?_
   have h8:Hp nx0 H0 (cQ bp L k'::(x1,_,54)::(x0,_,54)::([(x,a.cs,64)]++F)) H7 nx6:=h7.perm (List.Perm.cons _ (List.Perm.cons _ (List.Perm.swap _ _ _)));exact QF hL (n+1) (λj hj=>hf j (by omega)) [a] k' (j5 x 1 1) [(x,a.cs,64)] o _ x0 x1 nx6 H7 (show 1+(n+1)<=90010 by omega) (Gw.q_ a.iI) rfl ho h8
 . rw[if_neg (by rw[hi];simp)]at ho;simp only[ab];refine Wq.jmp (So ..) (λ_=>rfl) ?_;exact Hq.fin (G:=[]) h3 fJ k_ qN rfl rfl rfl aG.TR (by omega) λH9 nx9 h9=>End.ret ho rfl h9
end
section
variable {nx0 nx nx' bp k:Nat}{H0 H H':T OB}{F A B G G':List Bx}{s:Bx}{R:Go.Ev.Out->T OB->Nat->Prop}{b:Nat}{l:List Value}{e t:TypeId}{L:List Tok}
theorem Hq.WR {z:List Value}{a:aG}{x0:Nat}{kt:Value->Go.Ev.T OB->Nat->Q}(h:Hp nx0 H0 (s::(x0,z,54)::F) H nx)(hz:z.length=17)(hk:∀H' nx',Hp nx0 H0 (s::F) H' nx'->aF P pl X0 (kt a.v H' nx') nx0 H0 R):
 aF P pl X0 (aR (cI P H nx 54 (some (ptr x0)) (some a.v)) λ_ H nx=>af (ai P H 54 (some (ptr x0))) (λx=>ch P 54 x H nx kt) .bad) nx0 H0 R:=
 Hq.fin (G:=[]) h fJ k_ qN hz a.len (a.iI a.v (by simp)).2.1 a.fz (by omega) hk
theorem aG.WT {c:cS}:iO 0 [(4,39),(8,42),(9,39),(10,23),(11,45),(12,46),(14,47),(16,50)] (.agg ⟨[i64 4,i64 0,i64 0,au [],aw,i64 0,i64 0,au [],aw,aw,aw,aw,aw,au [],aw,au c.s,fu c.arg]⟩) (aG.v (.mk 4 f_ gk [] dF c)) []:=
 aG.ng mu AH mu vr AI AJ AK (dA.row gE) (aG.aW _)
theorem KU (k:Int)(c:cS):a9 P 54 (some [(0,i64 k),(5,c.v)])=some (.agg ⟨[i64 k,i64 0,i64 0,au [],aw,i64 0,i64 0,au [],aw,aw,aw,aw,aw,au [],aw,au c.s,fu c.arg]⟩):=by
 rw[cS.aW];exact NV ..
abbrev Ck (x:Data):Value:=aG.v (.mk 3 f_ gk [] x fO)
theorem Yu (hL:L.length<=100000){p:PS}(hd:bn 59 L Ck p.data)(hc:bn 60 L cS.v p.iH)(hb:bn 61 L re p.bind):bn 46 L re (kr L p):=by
 intro nx0 nx H0 H bp F k o ho h;unfold kr at ho;rw[ZO];refine Hq.alloc dx h λx0 H1 av h1=> ?_;refine Sq.take hL h1 (λhi H2 nx2 h2=> ?_) (λhi H2 nx2 h2=> ?_)
 . rw[if_pos hi]at ho;simp only[ab];refine Sq.call hd rfl h2 ho λa k' H3 nx3 _ ho h3=> ?_;exact Hq.WR (a:= .mk 3 f_ gk [] a fO) h3 rfl λH9 nx9 h9=>End.ret ho rfl h9
 rw[if_neg (by rw[hi];simp)]at ho;simp only[ab];refine Sq.take hL h2 (λhi H3 nx3 h3=> ?_) (λhi H3 nx3 h3=> ?_)
 . rw[if_pos hi]at ho;simp only[ab];refine Sq.call hc rfl h3 ho λa k' H4 nx4 _ ho h4=> ?_;simp only[ab,KU];exact Hq.fin (G:=[]) h4 fJ k_ qN rfl rfl rfl aG.WT (by omega) λH9 nx9 h9=>End.ret ho rfl h9
 . rw[if_neg (by rw[hi];simp),<- qh (p.bind k)]at ho;simp only[ab];refine Sq.call hb rfl h3 ho λa k' H4 nx4 _ ho h4=> ?_;unfold re;simp only[ab,Mh,Mi];exact Hq.WR h4 rfl λH9 nx9 h9=>End.ret ho rfl h9
end
section
variable {nx0 nx nx' bp k:Nat}{H0 H H':T OB}{F A B G G':List Bx}{s:Bx}{R:Go.Ev.Out->T OB->Nat->Prop}{b:Nat}{l:List Value}{e t:TypeId}{L:List Tok}
theorem vt (f:Value->Go.Ev.T OB->Nat->(Value->Go.Ev.T OB->Nat->Q)->Q)(v:Value):∀(vs:List Value) (H:Go.Ev.T OB) (nx:Nat) (kt:List Value->Go.Ev.T OB->Nat->Q),lV f (vs++[v]) H nx kt=lV f vs H nx λus H nx=>f v H nx λu H nx=>kt (us++[u]) H nx
 | [],H,nx,kt=>rfl
 | w::vs,H,nx,kt=>by
   show(f w H nx λw H nx=>lV f (vs++[v]) H nx λl H nx=>kt (w::l) H nx)=f w H nx λw H nx=>lV f vs H nx λl H nx=>f v H nx λu H nx=>kt ((w::l)++[u]) H nx;congr 1;funext w H nx;exact vt f v vs H nx _
theorem km.snoc {n:Nat}{offs:List (Nat×TypeId)}{vs us:List Value}{v u:Value}(h:km n offs vs us [])(h1:iO n offs v u []):km n offs (vs++[v]) (us++[u]) []:=λd hd nx0 nx H0 H s B k R hh hk=>by
 rw[vt];exact h d hd nx0 nx H0 H s B _ R hh λH' nx' h'=>h1 d hd nx0 nx' H0 H' s B _ R h' hk
theorem KV (k:Int)(c:aq):a9 P 54 (some [(0,i64 k),(2,c.v)])=some (.agg ⟨[i64 k,i64 0,i64 0,au [],aw,i64 c.k,i64 c.n,au c.s,eB c.l,bL c.p,ca c.d,aw,aw,au [],aw,au [],aw]⟩):=by
 rw[aq.aW];exact NT ..
theorem aG.WU {c:aq}:iO 0 [(4,39),(8,42),(9,39),(10,23),(11,45),(12,46),(14,47),(16,50)] (.agg ⟨[i64 5,i64 0,i64 0,au [],aw,i64 c.k,i64 c.n,au c.s,eB c.l,bL c.p,ca c.d,aw,aw,au [],aw,au [],aw]⟩) (aG.v (q7 c)) []:=
 aG.ng mu (dA.row gh) (dA.row eX) (dA.row iA) AI AJ AK AL (aG.aW _)
abbrev tL:List (Nat×TypeId):=[(4,39),(8,42),(9,39),(10,23),(11,45),(12,46),(14,47),(16,50)]
theorem KW {vs:List Value}{ds:List aG}{sl:Value}{kt:Value->Go.Ev.T OB->Nat->Q}(hG:Gw true 17 54 vs sl G)(hL:km 0 tL vs (ds.map aG.v) [])(hl:vs.length=ds.length)(h:Hp nx0 H0 (s::(G++F)) H nx)(hk:∀H' nx',Hp nx0 H0 (s::F) H' nx'->aF P pl X0 (kt (ca ds) H' nx') nx0 H0 R):aF P pl X0 (ch P 23 sl H nx kt) nx0 H0 R:=by
 have e:ch P 23 sl H nx kt=kQ P 100000 23 sl H nx kt:=by
  unfold ch;rcases hG.2 with⟨_,rfl,_⟩ | ⟨b,c,rfl,_⟩<;>rfl
 rw[e];exact(dA.gw (t:=23) iA fJ k_ rfl qN hG hL (λu hu=>by obtain⟨x,_,rfl⟩:=List.mem_map.1 hu;exact x.len) (λq=>by rw[q]at hl;have:=List.length_eq_zero_iff.1 hl.symm;rw[this];rfl)) 100000 (by omega) nx0 nx H0 H s F kt R h hk
theorem WV (hLL:L.length<=100000):∀(m:Nat),(∀j,j<m->bn 46 L re (ps L j).dec)->(∀j,j<m->bn 47 L aq.v (ps L j).exp)->∀(ds:List aG) (vs:List Value) (k:Nat) (sl:Value) (G:List Bx) (o:kn (List aG)) (nx:Nat) (H:Go.Ev.T OB),ds.length+m<=90010->Gw true 17 54 vs sl G->km 0 tL vs (ds.map aG.v) []->vs.length=ds.length->
 (ps L m).cq ds k=some o->Hp nx0 H0 (cQ bp L k::(G++F)) H nx->aF P pl X0 (.jump (Ey (ptr bp) sl H nx)) nx0 H0 (End nx0 H0 bp L F ca o)
 | 0,_,_,ds,vs,k,sl,G,o,nx,H,hm,hG,hL,hl,ho,h=>by cases ho
 | m+1,hd,he,ds,vs,k,sl,G,o,nx,H,hm,hG,hL,hl,ho,h=>by
   have ho:jO L (ps L m) ds k=some o:=ho;unfold jO at ho;have J14:∀(cs:List Value) (d:aG) (k' x1 nx2:Nat) (H2:Go.Ev.T OB),cs.length=17->cs.all aj=true->iO 0 tL (.agg ⟨cs⟩) d.v []->(ps L m).cq (ds++[d]) (skip L [59] k')=some o->Hp nx0 H0 (cQ bp L k'::(x1,cs,54)::(G++F)) H2 nx2->aF P pl X0 (.jump (xf (ptr bp) sl (ptr x1) H2 nx2)) nx0 H0 (End nx0 H0 bp L F ca o):=by
    intro cs d k' x1 nx2 H2 hc h1 hz ho2 h2;refine Wq.jmp (RY ..) (λ_=>rfl) ?_;simp only[ab,Qt (h2.at_ 1 rfl) hc];refine Hq.Fi cs hc h2 λx H3 nx3 h3=> ?_;refine Hq.add [_] (v:= .agg ⟨cs⟩) iA fJ (Qr (by omega)) (by omega) (λv hv=>by rw[List.mem_singleton]at hv;subst hv;exact⟨hc,h1,⟨_,rfl⟩⟩) hG h3 λsl' G' H4 nx4 hG' h4=> ?_;refine Sq.skip hLL (Hp.oU h4) λbb H5 nx5 h5=> ?_;simp only[ab];exact WV hLL m (λj hj=>hd j (by omega)) (λj hj=>he j (by omega)) (ds++[d]) (vs++[.agg ⟨cs⟩]) _ sl' G' o nx5 H5 (by rw[List.length_append];simp;omega) hG' (by rw[List.map_append];exact hL.snoc hz) (by simp[hl]) ho2 h5
   refine Wq.jmp (Vz ..) (λ_=>rfl) ?_;refine Sq.now h λH1 av h1=> ?_;simp only[ab];refine Wq.bK (λhi=> ?_) (λhi=> ?_)
   . have hne:¬(tk L k).k=0:=by simpa using hi
     rw[if_neg hne]at ho;refine Sq.call (hd m (Nat.lt_succ_self m)) rfl h1 ho λd k' H2 nx2 _ ho h2=> ?_;unfold re;simp only[ab,Mh,Mi];refine Hq.alloc dx h2 λx1 H3 nx3 h3=> ?_;refine Hq.set [_] h3 fJ rfl (d.getD GJ).len ((d.getD GJ).iI (d.getD GJ).v (by simp)).2.1 λH4 h4=> ?_
     cases d with
     | some d=>
       simp only[ab,Option.isSome_some,Bool.not_true];exact J14 _ d k' x1 _ H4 d.len (d.iI d.v (by simp)).2.1 d.fz ho h4
     | none=>
       simp only[ab,Option.isSome_none,Bool.not_false];refine Sq.call (he m (Nat.lt_succ_self m)) rfl h4 ho λc k2 H5 nx5 _ ho h5=> ?_;simp only[ab,KV];refine Hq.set [_] h5 fJ (GJ.len) rfl rfl λH6 h6=> ?_
       exact J14 _ (q7 c) k2 x1 _ H6 rfl rfl aG.WU ho h6
   . have h0:(tk L k).k=0:=by simpa using hi
     rw[if_pos h0]at ho;exact KW hG hL hl h1 λH9 nx9 h9=>End.ret ho rfl h9
end
section
variable {nx0:Nat}{H0:T OB}
variable {fr:Nat->List Value->TypeId->Prop}{bp:Nat}{l0:List Tok}{b0:Bool}{ok:Bool}{ts:List Tok}{n nx:Nat}{H:T OB}{R:Value->T OB->Nat->Prop}
def Mj (fr:Nat->List Value->TypeId->Prop)(b:Nat)(c:List Value)(e:TypeId):Nat->List Value->TypeId->Prop:=λx l t=>(x=b/\l=c/\t=e)\/fr x l t
theorem Wq.Yv {e:TypeId}{u:Value}{k:Value->T OB->Nat->Q}(hS:St fr bp nx0 H0 l0 b0 ok ts n H nx)(hk:∀H',(∀x l t,fr x l t->x≠nx)->St (Mj fr nx u.cells.toList e) bp nx0 H0 l0 b0 ok ts n H' (nx+1)->dJ P pl X0 (k (.pointer (some ⟨nx,0,none⟩)) H' (nx+1)) nx0 H0 R):dJ P pl X0 (aR (jz H nx e (some u)) k) nx0 H0 R:=by
 obtain⟨h0,hA,l,b,hO,hG⟩:=hS;have hO':=hO;obtain⟨h1,h2,sl,h3,h4,h5,h6⟩:=hO;refine Wq.box hA λH' hb cc hA'=>hk H' (λx l t hx=>by have:=(h6 x l t hx).1;omega) ⟨h0,hA',l,b,?_,hG⟩;have:=hO'.cc (nx':=nx+1) (by omega) cc;obtain⟨g1,g2,sl',g3,g4,g5,g6⟩:=this;have hrow:∀c o n u,sl= .slice (some ⟨c,o,none⟩) n u->c<nx:=by
  intro c o n u q;rcases h4 with⟨_,e⟩ | ⟨c',_,q2,_,q4⟩
  . rw[q]at e;cases e
  . rw[q]at q4;cases q4;exact q2
 refine⟨h1,by omega,sl,cc _ _ _ h2 h3,?_,h5,λx l t hx=> ?_⟩
 . rcases h4 with h | ⟨c,q1,q2,q3,q4⟩
   . exact .inl h
   . exact .inr ⟨c,q1,by omega,cc _ _ _ q2 q3,q4⟩
 . rcases hx with⟨rfl,rfl,rfl⟩ | hx
   . exact⟨by omega,hb,by omega,λc o n u q=>by have:=hrow c o n u q;omega⟩
   . obtain⟨p,q,r⟩:=h6 x l t hx;exact⟨by omega,cc _ _ _ p q,r⟩
theorem St.get {b:Nat}{c:List Value}{e:TypeId}(h:St (Mj fr b c e) bp nx0 H0 l0 b0 ok ts n H nx):cA H b c e:=by
 obtain⟨_,_,l,b',⟨_,_,sl,_,_,_,h6⟩,_⟩:=h;exact(h6 b c e (.inl ⟨rfl,rfl,rfl⟩)).2.1
theorem St.drop {b:Nat}{c:List Value}{e:TypeId}(h:St (Mj fr b c e) bp nx0 H0 l0 b0 ok ts n H nx):St fr bp nx0 H0 l0 b0 ok ts n H nx:=by
 obtain⟨h0,hA,l,b',⟨h1,h2,sl,h3,h4,h5,h6⟩,hG⟩:=h;exact⟨h0,hA,l,b',⟨h1,h2,sl,h3,h4,h5,λx l t hx=>h6 x l t (.inr hx)⟩,hG⟩
theorem Wq.zm {b off:Nat}{c c':List Value}{e t:TypeId}{u:Value}{k:Value->T OB->Nat->Q}(hS:St (Mj fr b c e) bp nx0 H0 l0 b0 ok ts n H nx)(hbn:nx0<=b)(hne:∀x l t,fr x l t->x≠b)(hs:aN P t=some 1)(hc:u.cells.toList=[u])(ho:aj u=true)(hn:off<c.length)(hl:c.set off u=c')
 (hk:∀H',St (Mj fr b c' e) bp nx0 H0 l0 b0 ok ts n H' nx->dJ P pl X0 (k undef H' nx) nx0 H0 R):dJ P pl X0 (aR (cI P H nx t (some (.pointer (some ⟨b,off,none⟩))) (some u)) k) nx0 H0 R:=by
 obtain⟨h0,hA,l,b',⟨h1,h2,sl,h3,h4,h5,h6⟩,hG⟩:=hS;obtain⟨hb1,hb2,hb3,hb4⟩:=h6 b c e (.inl ⟨rfl,rfl,rfl⟩);refine Wq.put hb2 hs hc ho hn hl hA hbn λH' hb cc hA'=>hk H' ⟨h0,hA',l,b',⟨h1,h2,sl,cc _ _ _ (λq=>hb3 q.symm) h3,?_,h5,λx l t hx=> ?_⟩,hG⟩
 . rcases h4 with h | ⟨c,q1,q2,q3,q4⟩
   . exact .inl h
   . exact .inr ⟨c,q1,q2,cc _ _ _ (hb4 _ _ _ _ q4) q3,q4⟩
 . rcases hx with⟨rfl,rfl,rfl⟩ | hx
   . exact⟨hb1,hb,hb3,hb4⟩
   . obtain⟨p,q,r⟩:=h6 x l t (.inr hx);exact⟨p,cc _ _ _ (hne x l t hx) q,r⟩
def bj {α:Type}(tf:Bool->α->List Tok):Bool->List α->List Tok
 | _,[]=>[]
 | b,a::l=>tf b a++bj tf false l
def dh {α:Type}(nf:α->Nat):List α->Nat
 | []=>0
 | a::l=>nf a+dh nf l
theorem Wq.kx {α:Type}(l:List α)(okf:α->Bool)(tf:Bool->α->List Tok)(nf:α->Nat)(q:Nat->T OB->Nat->Q)(hS:St fr bp nx0 H0 l0 b0 ok ts n H nx)(hl:l0.length+(n+dh nf l)<=100000)
 (hend:∀H nx,St fr bp nx0 H0 l0 b0 (ok&&l.all okf) (ts++bj tf true l) (n+dh nf l) H nx->dJ P pl X0 (q l.length H nx) nx0 H0 R)
 (hstep:∀i a H nx ok' ts' n',l[i]? = some a->i<l.length->l0.length+(n'+nf a)<=100000->St fr bp nx0 H0 l0 b0 ok' ts' n' H nx->(∀H nx,St fr bp nx0 H0 l0 b0 (ok'&&okf a) (ts'++tf (decide (i=0)) a) (n'+nf a) H nx->dJ P pl X0 (q (i+1) H nx) nx0 H0 R)->dJ P pl X0 (q i H nx) nx0 H0 R):
 dJ P pl X0 (q 0 H nx) nx0 H0 R:=by
 have key:∀(t:List α) (i:Nat) (ok':Bool) (ts':List Tok) (n':Nat) (H:T OB) (nx:Nat),l.drop i=t->i<=l.length->(ok'&&t.all okf)=(ok&&l.all okf)->ts'++bj tf (decide (i=0)) t=ts++bj tf true l->n'+dh nf t=n+dh nf l->St fr bp nx0 H0 l0 b0 ok' ts' n' H nx->dJ P pl X0 (q i H nx) nx0 H0 R:=by
  intro t
  induction t with
  | nil=>
    intro i ok' ts' n' H nx hd hi h1 h2 h3 hS;have hil:=drop_nil hd hi;subst hil;refine hend H nx ?_;rw[<- h1,<- h2,<- h3];simpa[bj,dh]using hS
  | cons a t ih=>
    intro i ok' ts' n' H nx hd hi h1 h2 h3 hS;obtain⟨hg,hlt,hd'⟩:=drop_cons hd;rw[dh]at h3;refine hstep i a H nx ok' ts' n' hg hlt (by omega) hS λH2 nx2 hS2=>ih (i+1) _ _ _ H2 nx2 hd' (by omega) ?_ ?_ ?_ hS2
    . rw[<- h1,List.all_cons,Bool.and_assoc]
    . rw[<- h2,bj,List.append_assoc];rfl
    . omega
 exact key l 0 ok ts n H nx rfl (Nat.zero_le _) rfl rfl rfl hS
def bN {α:Type}(s:List UInt8)(f:α->List Tok):Bool->α->List Tok:=λb a=>(if b=true then[]else[cN s])++f a
abbrev PI:=(Int×Nat)×(List Tok×List (List Tok))
def vu (x:PI):List Tok:=if x.1.1=6/\x.1.2≠0 then cN [40]::(x.2.1++[cN [41]])else x.2.1
def mw (k n:Int)(s:List UInt8)(q:List PI):List Tok:=
 if k=1 then[cN [95]]
 else if k=2 then[⟨3,s,0,0⟩]
 else if k=3 then if n<0 then[cN [126],⟨1,[],-n,0⟩]else[⟨1,[],n,0⟩]
 else if k=4 then[⟨2,s,0,0⟩]
 else if k=5 then cN [40]::(bj (bN [44] vu) true q++[cN [41]])
 else if k=6 then if s=[58,58]then(match q with | [x]=>(match x.2.2 with | [a,b]=>a++cN [58,58]::b | _=>[]) | _=>[])else⟨4,s,0,0⟩::bj (λ_=>vu) true q
 else[]
mutual
def ux:aB->List Tok×List (List Tok)
 | .mk k n s l=>(mw k n s (vw l),(vw l).map vu)
def vw:List aB->List PI
 | []=>[]
 | p::l=>((p.k,p.l.length),ux p)::vw l
end
def fR (p:aB):List Tok:=(ux p).1
def aS (p:aB):List Tok:=vu ((p.k,p.l.length),ux p)
theorem KX (l:List aB):vw l=l.map λp=>((p.k,p.l.length),ux p):=by
 induction l with
 | nil=>rw[vw];rfl
 | cons p l ih=>rw[vw,ih];rfl
theorem oZ (p:aB):ux p=(mw p.k p.n p.s (p.l.map λp=>((p.k,p.l.length),ux p)),p.l.map aS):=by
 cases p;rw[ux,KX,List.map_map];rfl
theorem kz (p:aB):aS p=if p.k=6/\p.l.length≠0 then cN [40]::(fR p++[cN [41]])else fR p:=rfl
theorem fA {α β:Type}(tf:Bool->β->List Tok)(g:α->β)(l:List α):∀b,bj tf b (l.map g)=bj (λb a=>tf b (g a)) b l:=by
 induction l with
 | nil=>intro b;rfl
 | cons a l ih=>intro b;rw[List.map_cons,bj,bj,ih]
theorem cJ (l:List aB):bz l=l.all bx:=by
 induction l with
 | nil=>rw[bz];rfl
 | cons a l ih=>rw[bz,ih];rfl
theorem vx (l:List aB):dh (λp:aB=>8*p.z) l=8*bB l:=by
 induction l with
 | nil=>rfl
 | cons a l ih=>rw[dh,ih,bB];omega
theorem aB.bJ (p:aB):1<=p.z:=by rw[aB.fY];omega
theorem Cl {s:List UInt8}(h:gi s):s.length<9223372036854775807:=Nat.lt_trans h (by decide)
theorem N1 (p:aB)(ih:gH 52 [p.v] (bx p) (fR p) (8*p.z-4)):gH 55 [p.v] (bx p) (aS p) (8*p.z-2):=λfr bp nx0 H0 l0 b0 H nx hn hS=>by
 have hz:=p.bJ;rw[ZX];refine Wq.qf hS λhS=> ?_;simp only[ab,az,List.length_map,jH];have L:∀b:Bool,b=decide ¬(p.k=6/\p.l.length≠0)->dJ P pl X0 (.jump (ED (ptr bp) (aa p.v) b H (nx+1))) nx0 H0 (dW fr bp nx0 H0 l0 b0 (bx p) (aS p) (8*p.z-2)):=by
  intro b hb;refine Wq.jmp (VC ..) (λ_=>rfl) ?_;rw[kz];cases b with
  | true=>
    simp only[ab,az,List.length_map];rw[if_neg (of_decide_eq_true hb.symm)];refine Wq.aZ ih rfl hS (by omega) λu H2 nx2 hS2=> ?_;exact Wq.done hS2 (by simp) (λ_=>by simp) (by omega)
  | false=>
    simp only[ab,az,List.length_map];rw[if_pos (Decidable.not_not.1 (of_decide_eq_false hb.symm))];refine Wq.lK [40] hS (by omega) λu H1 av hS1=> ?_;refine Wq.aZ ih rfl hS1 (by omega) λu H2 nx2 hS2=> ?_;refine Wq.lK [41] hS2 (by omega) λu H3 nx3 hS3=> ?_;exact Wq.done hS3 (by simp) (λ_=>by simp) (by omega)
 refine Wq.gj (λh=>L _ (by simp[h])) (λh=> ?_);exact L _ (by simp[h])
theorem N2 (l:List aB)(hl:l.length<dQ)(ih:∀a,a∈l->gH 55 [a.v] (bx a) (aS a) (8*a.z-2)):gH 66 [bL l] (bz l) (bj (bN [44] aS) true l) (8*bB l):=λfr bp nx0 H0 l0 b0 H nx hn hS=>by
 rw[Z7];simp only[ab,az,List.length_map];refine Wq.kx l bx (bN [44] aS) (λp=>8*p.z) (λi H nx=> .jump (EF (ptr bp) (bL l) (i64 (l.length:Int)) (i64 (i:Int)) H nx)) hS (by rw[vx];omega) (λH1 av hS1=> ?_) (λi a H1 av ok' ts' n' hg hlt hb hS1 ih'=> ?_)
 . refine Wq.jmp (P3 ..) (λ_=>rfl) ?_;simp only[ab,az,List.length_map,aA];exact Wq.done hS1 (by rw[cJ];simp) (λ_=>by simp) (by rw[vx];omega)
 . have hx:(l.map aB.v)[i]? = some a.v:=by simp[hg]
   have hm:=List.mem_of_getElem? hg;have hz:=a.bJ;refine Wq.jmp (P3 ..) (λ_=>rfl) ?_;simp only[ab,az,List.length_map,aE hlt,ke hx];refine Wq.fi cR dj rfl (GB _) (GC _) hS1 λH2 nx2 hS2=> ?_;have L:∀ts2 n2 H3 nx3,St fr bp nx0 H0 l0 b0 ok' ts2 n2 H3 nx3->ts2=ts'++(if decide (i=0)=true then[]else[cN [44]])->n2<=n'+1->dJ P pl X0 (.jump (xL (ptr bp) (aa a.v) (bL l) (i64 (l.length:Int)) (i64 (i:Int)) H3 nx3)) nx0 H0 (dW fr bp nx0 H0 l0 b0 (bz l) (bj (bN [44] aS) true l) (8*bB l)):=by
    intro ts2 n2 H3 nx3 hS3 e en;subst e;refine Wq.jmp (Sr ..) (λ_=>rfl) ?_;simp only[ab,az,List.length_map];refine Wq.aZ (ih a hm) rfl hS3 (by omega) λu H4 nx4 hS4=> ?_;simp only[ab,ao (show i<9223372036854775807 by have:=cM hl;omega)];refine ih' _ _ (hS4.mono rfl (λ_=> ?_) (by omega));unfold bN;simp
   refine Wq.ite (λh=> ?_) (λh=> ?_)
   . refine Wq.lK [44] hS2 (by omega) λu H3 nx3 hS3=> ?_;exact L _ _ _ _ hS3 (by rw[if_neg (by simp;omega)]) (by omega)
   . exact L _ _ _ _ hS2 (by rw[if_pos (by simp;omega)];simp) (by omega)
theorem tM (l:List aB):dh (λp:aB=>8*p.z-2) l<=8*bB l:=by
 induction l with
 | nil=>simp[dh]
 | cons a l ih=>rw[dh,bB];omega
theorem mQ (p:aB):fR p=mw p.k p.n p.s (p.l.map λp=>((p.k,p.l.length),ux p)):=by unfold fR;rw[oZ]
theorem N3 (p:aB)(h6:p.k=6)(hp:p.ok)(ih:∀a,a∈p.l->gH 55 [a.v] (bx a) (aS a) (8*a.z-2))(ih2:∀q,q∈p.l->∀a,a∈q.l->gH 55 [a.v] (bx a) (aS a) (8*a.z-2)):gH 67 [p.v] (bx p) (fR p) (8*p.z-4):=λfr bp nx0 H0 l0 b0 H nx hn hS=>by
 rw[aB.bm]at hp;have hz:=p.fY;have hlen:=GI p.l;rw[Z8];refine Wq.qf hS λhS=> ?_;simp only[ab,az,List.length_map,E6];have e0:bx p=(bz p.l&&(decide (p.n=0)&&if p.s=[58,58]then(match p.l with | [q]=>decide (q.k=5)&&decide (q.l.length=2) | _=>false)else aU 4 p.s&&decide (p.l.length<=1))):=by
  rw[h_];unfold kj;rw[h6];simp<;>rfl
 have L6:∀(r:Bool) H1 av,r=(decide (p.l.length<=1)&&decide (p.n=0))->St fr bp nx0 H0 l0 b0 r [] 0 H1 av->dJ P pl X0 (.jump (EG (ptr bp) (aa p.v) H1 av)) nx0 H0 (dW fr bp nx0 H0 l0 b0 (bx p) (fR p) (8*p.z-4)):=by
  intro r H1 av hr hS1;refine Wq.jmp (VG ..) (λ_=>rfl) ?_;simp only[ab,az,List.length_map,dz,E5,yp];refine Wq.ite (λhs=> ?_) (λhs=> ?_)
  . rw[if_pos hs]at e0;have L10:∀(c:Bool) H2 nx2,(c=true->∃q a b,p.l=[q]/\q.k=5/\q.l=[a,b]/\q.s=[]/\q.n=0)->(c=false->bx p=false)->St fr bp nx0 H0 l0 b0 (r&&c) [] 0 H2 nx2->dJ P pl X0 (.jump (mf (ptr bp) (aa p.v) H2 nx2)) nx0 H0 (dW fr bp nx0 H0 l0 b0 (bx p) (fR p) (8*p.z-4)):=by
     intro c H2 nx2 hc hc2 hS2;refine Wq.jmp (Ss ..) (λ_=>rfl) ?_;simp only[ab,gb,hS2.bad];refine Wq.bK (λhb=> ?_) (λhb=> ?_)
     . have hb0:b0=false:=by cases b0 with
        | false=>rfl
        | true=>simp at hb
       have oB:(r&&c)=true:=by rw[hb0]at hb;simpa using hb
       rw[Bool.and_eq_true]at oB;obtain⟨q,a,b,hl,hk,hql,hqs,hqn⟩:=hc oB.2;have hr':=oB.1;rw[hr,Bool.and_eq_true,decide_eq_true_eq,decide_eq_true_eq]at hr';have hx:(p.l.map aB.v)[0]? = some q.v:=by rw[hl];rfl
       have hx':=ke hx .i64;rw[show((0:Nat):Int)=0 from rfl]at hx';have hy:(q.l.map aB.v)[0]? = some a.v:=by rw[hql];rfl
       have hy':=ke hy .i64;rw[show((0:Nat):Int)=0 from rfl]at hy';have hw:(q.l.map aB.v)[1]? = some b.v:=by rw[hql];rfl
       have hw':=ke hw .i64;rw[show((1:Nat):Int)=1 from rfl]at hw';simp only[ab,az,List.length_map,hx',hy',hw'];have hqm:q∈p.l:=by rw[hl];simp
       have ha:a∈q.l:=by rw[hql];simp
       have hbm:b∈q.l:=by rw[hql];simp
       have hqz:=q.fY;have z1:bB p.l=q.z+0:=by rw[hl];rfl
       have z2:bB q.l=a.z+(b.z+0):=by rw[hql];rfl
       have pa:=a.bJ;have pb:=b.bJ;refine Wq.aZ (ih2 q hqm a ha) rfl hS2 (by omega) λu H3 nx3 hS3=> ?_;refine Wq.lK [58,58] hS3 (by omega) λu H4 nx4 hS4=> ?_;refine Wq.aZ (ih2 q hqm b hbm) rfl hS4 (by omega) λu H5 nx5 hS5=> ?_;refine Wq.done hS5 ?_ (λ_=> ?_) (by omega)
       . rw[e0,hl,oB.1,oB.2];simp only[bz,hk,hql,hr'.2,decide_true,Bool.true_and,Bool.and_true,List.length_cons,List.length_nil];rw[h_ q,hql,hk,hqs,hqn];simp[bz,kj]
       . rw[mQ,h6,hs,hl];simp only[mw,List.map_cons,List.map_nil];rw[oZ q,hql];simp
     . refine Wq.skip hS2 (by rw[Bool.not_eq_false']at hb;exact hb) (λg1 g2=> ?_) (by omega);rcases Bool.eq_false_or_eq_true c with h | h
       . rw[h,Bool.and_true]at g2;obtain⟨q,a,b,hl,_⟩:=hc h;rw[e0];rw[g2,hl]at hr;have:decide (p.n=0)=false:=by simpa using hr.symm
         rw[this];simp
       . exact hc2 h
    have F:∀(c:Bool),(c=true->∃q a b,p.l=[q]/\q.k=5/\q.l=[a,b]/\q.s=[]/\q.n=0)->(c=false->bx p=false)->dJ P pl X0 (bQ (.call 49 [ptr bp,.bool c] false none H1 av) (λx H nx=> .jump (mf (ptr bp) (aa p.v) H nx)) gg) nx0 H0 (dW fr bp nx0 H0 l0 b0 (bx p) (fR p) (8*p.z-4)):=by
     intro c hc hc2;refine Wq.aZ (cf c) rfl hS1 (by omega) λu H2 nx2 hS2=> ?_;exact L10 c H2 nx2 hc hc2 hS2
    match hl:p.l with
    | []=>
      rw[hl]at e0;simp only[ab,show decide (([]:List aB).length=1)=false by simp];exact F false nofun (λ_=>by rw[e0];simp)
    | q::q'::r=>
      rw[hl]at e0;simp only[ab,show decide ((q::q'::r).length=1)=false by simp];exact F false nofun (λ_=>by rw[e0];simp)
    | [q]=>
      rw[hl]at e0;have hx:(p.l.map aB.v)[0]? = some q.v:=by rw[hl];rfl
      have hx':=ke hx .i64;rw[show((0:Nat):Int)=0 from rfl,hl]at hx';simp only[ab,az,List.length_map,show decide (([q]:List aB).length=1)=true by simp,hx',yp,dz];have e1:bx p=(bx q&&(decide (p.n=0)&&(decide (q.k=5)&&decide (q.l.length=2)))):=by rw[e0];simp[bz]
      refine Wq.ite (λg1=> ?_) (λg1=>F false nofun (λ_=>by rw[e1];simp[g1]));refine Wq.ite (λg2=> ?_) (λg2=>F false nofun (λ_=>by rw[e1];simp[g2]));have e2:bx q=(bz q.l&&(decide (q.n=0)&&(decide (q.s=[]) && !decide (q.l.length=1)))):=by rw[h_,g1];simp[kj]
      refine Wq.ite (λg3=> ?_) (λg3=>F false nofun (λ_=>by rw[e1,e2];simp[g3]));refine F _ (λg4=> ?_) (λg4=>by rw[e1,e2,g4];simp);obtain⟨a,b,hq⟩:∃a b,q.l=[a,b]:=by
       match h:q.l with
       | []=>rw[h]at g2;simp at g2
       | [_]=>rw[h]at g2;simp at g2
       | [a,b]=>exact⟨a,b,rfl⟩
       | a::b::c::r=>rw[h]at g2;simp at g2
      exact⟨q,a,b,hl,g1,hq,g3,of_decide_eq_true g4⟩
  . rw[if_neg hs]at e0;simp only[ab,gf];refine Wq.aZ (eG ⟨4,p.s,0,0⟩ (Cl hp.2.1)) rfl hS1 (by omega) λu H2 nx2 hS2=> ?_;have hsum:=tM p.l;refine Wq.kx p.l bx (λ_=>aS) (λp=>8*p.z-2) (λi H nx=> .jump (xM (ptr bp) (bL p.l) (i64 (p.l.length:Int)) (i64 (i:Int)) H nx)) hS2 (by omega) (λH1 av hS1=> ?_) (λi a H1 av ok' ts' n' hg hlt hb hS1 ih'=> ?_)
    . refine Wq.jmp (Jx ..) (λ_=>rfl) ?_;simp only[ab,az,List.length_map,aA];refine Wq.done hS1 ?_ (λ_=> ?_) (by omega)
      . rw[e0,hr,cJ];show _=(p.l.all bx&&(decide (p.n=0)&&(aV ⟨4,p.s,0,0⟩&&decide (p.l.length<=1))));cases p.l.all bx<;>cases decide (p.n=0)<;>cases aV ⟨4,p.s,0,0⟩<;>cases decide (p.l.length<=1)<;>rfl
      . rw[mQ,h6];simp only[mw];rw[if_neg (by omega),if_neg (by omega),if_neg (by omega),if_neg (by omega),if_neg (by omega),if_pos trivial,if_neg hs,fA];rfl
    . have hx:(p.l.map aB.v)[i]? = some a.v:=by simp[hg]
      have hm:=List.mem_of_getElem? hg;refine Wq.jmp (Jx ..) (λ_=>rfl) ?_;simp only[ab,az,List.length_map,aE hlt,ke hx];refine Wq.fi cR dj rfl (GB _) (GC _) hS1 λH2 nx2 hS2=> ?_;refine Wq.aZ (ih a hm) rfl hS2 (by omega) λu H4 nx4 hS4=> ?_;simp only[ab,ao (show i<9223372036854775807 by have:=cM hp.2.2.1;omega)];exact ih' _ _ hS4
 refine Wq.bK (λh=> ?_) (λh=> ?_)
 . refine Wq.aZ (cf _) rfl hS (by omega) λu H1 av hS1=> ?_;exact L6 _ H1 av (by simp[h]) hS1
 . refine Wq.aZ (cf _) rfl hS (by omega) λu H1 av hS1=> ?_;exact L6 _ H1 av (by simp[h]) hS1
end
section
variable {nx0:Nat}{H0:T OB}
variable {fr:Nat->List Value->TypeId->Prop}{bp:Nat}{l0:List Tok}{b0:Bool}{ok:Bool}{ts:List Tok}{n nx:Nat}{H:T OB}{R:Value->T OB->Nat->Prop}
theorem qO {H:T OB}{b:Nat}{p:aB}(h:cA H b p.cs 41):ai P H 3 (some (.pointer (some ⟨b,0,none⟩)))=some (i64 p.k)/\ai P H 2 (some (.pointer (some ⟨b,1,none⟩)))=some (i64 p.n)/\ai P H 9 (some (.pointer (some ⟨b,2,none⟩)))=some (au p.s)/\ai P H 39 (some (.pointer (some ⟨b,3,none⟩)))=some (bL p.l)/\ai P H 41 (some (.pointer (some ⟨b,0,none⟩)))=some p.v:=by
 rw[aB.fe]at h;rw[aB.aW];exact⟨ah h oR rfl,ah h PF rfl,ah h nm rfl,ah h iB rfl,bU h ft dj (by simp)⟩
theorem KY (p:aB)(hp:p.ok)(h162:gH 66 [bL p.l] (bz p.l) (bj (bN [44] aS) true p.l) (8*bB p.l))(h163:p.k=6->gH 67 [p.v] (bx p) (fR p) (8*p.z-4)):gH 52 [p.v] (bx p) (fR p) (8*p.z-4):=λfr bp nx0 H0 l0 b0 H nx hn hS=>by
 rw[aB.bm]at hp;have hz:=p.fY;have hn0:=hS.2.1.1;rw[ZU];refine Wq.Yv hS λH1 hne hS1=> ?_;have hB:=qO (p:=p) hS1.get;simp only[ab,az,List.length_map,rz,jE,mM,oO,hB.1,hB.2.1,hB.2.2.1,hB.2.2.2.1,hB.2.2.2.2,dz,jH,E5];have e0:=h_ p;have e1:=mQ p;unfold kj at e0;unfold mw at e1;have eL:∀g:p.l.length=0,bz p.l=true:=λg=>by rw[List.eq_nil_of_length_eq_zero g];rfl
 have L14:p.k=1->∀(r:Bool) H2 nx2,St (Mj fr nx p.v.cells.toList 41) bp nx0 H0 l0 b0 r [] 0 H2 nx2->r=bx p->dJ P pl X0 (.jump (p7 (ptr bp) H2 nx2)) nx0 H0 (dW fr bp nx0 H0 l0 b0 (bx p) (fR p) (8*p.z-4)):=by
  intro hk r H2 nx2 hS2 hr;refine Wq.jmp (R8 ..) (λ_=>rfl) ?_;refine Wq.lK [95] hS2 (by omega) λu H3 nx3 hS3=> ?_;exact Wq.done hS3.drop hr (λ_=>by rw[e1,if_pos hk];rfl) (by omega)
 have L20:p.k=2->∀(r:Bool) H2 nx2,St (Mj fr nx p.v.cells.toList 41) bp nx0 H0 l0 b0 r [] 0 H2 nx2->r=(decide (p.l.length=0)&&decide (p.n=0))->dJ P pl X0 (.jump (tq (ptr bp) (.pointer (some ⟨nx,0,none⟩)) H2 nx2)) nx0 H0 (dW fr bp nx0 H0 l0 b0 (bx p) (fR p) (8*p.z-4)):=by
  intro hk r H2 nx2 hS2 hr;have hB:=qO (p:=p) hS2.get;refine Wq.jmp (R9 ..) (λ_=>rfl) ?_;simp only[ab,mM,hB.2.2.1,gf];refine Wq.aZ (eG ⟨3,p.s,0,0⟩ (Cl hp.2.1)) rfl hS2 (by omega) λu H3 nx3 hS3=> ?_;refine Wq.done hS3.drop ?_ (λ_=>by rw[e1,hk];rfl) (by omega);rw[e0,hk,hr];show _=(bz p.l&&(decide (p.n=0)&&(aV ⟨3,p.s,0,0⟩&&decide (p.l.length=0))))
  by_cases g:p.l.length=0
  . rw[eL g];cases decide (p.n=0)<;>simp[g]
  . simp[g]
 have L38:p.k=4->∀(r:Bool) H2 nx2,St (Mj fr nx p.v.cells.toList 41) bp nx0 H0 l0 b0 r [] 0 H2 nx2->r=(decide (p.l.length=0)&&decide (p.n=0))->dJ P pl X0 (.jump (tt (ptr bp) (.pointer (some ⟨nx,0,none⟩)) H2 nx2)) nx0 H0 (dW fr bp nx0 H0 l0 b0 (bx p) (fR p) (8*p.z-4)):=by
  intro hk r H2 nx2 hS2 hr;have hB:=qO (p:=p) hS2.get;refine Wq.jmp (Sa ..) (λ_=>rfl) ?_;simp only[ab,mM,hB.2.2.1,gf];refine Wq.aZ (eG ⟨2,p.s,0,0⟩ (Cl hp.2.1)) rfl hS2 (by omega) λu H3 nx3 hS3=> ?_;refine Wq.done hS3.drop ?_ (λ_=>by rw[e1,hk];rfl) (by omega);rw[e0,hk,hr];show _=(bz p.l&&(decide (p.n=0)&&decide (p.l.length=0)));have:aV ⟨2,p.s,0,0⟩=true:=by simp[aV]
  rw[this]
  by_cases g:p.l.length=0
  . rw[eL g];cases decide (p.n=0)<;>simp[g]
  . simp[g]
 have L44:p.k=5->∀(r:Bool) H2 nx2,St (Mj fr nx p.v.cells.toList 41) bp nx0 H0 l0 b0 r [] 0 H2 nx2->r=(!decide (p.l.length=1)&&(decide (p.s=[])&&decide (p.n=0)))->dJ P pl X0 (.jump (p9 (ptr bp) (.pointer (some ⟨nx,0,none⟩)) H2 nx2)) nx0 H0 (dW fr bp nx0 H0 l0 b0 (bx p) (fR p) (8*p.z-4)):=by
  intro hk r H2 nx2 hS2 hr;refine Wq.jmp (Sb ..) (λ_=>rfl) ?_;refine Wq.lK [40] hS2 (by omega) λu H3 nx3 hS3=> ?_;have hB:=qO (p:=p) hS3.get;simp only[ab,oO,hB.2.2.2.1];refine Wq.aZ h162 rfl hS3 (by omega) λu H4 nx4 hS4=> ?_;refine Wq.lK [41] hS4 (by omega) λu H5 nx5 hS5=> ?_;refine Wq.done hS5.drop ?_ (λ_=> ?_) (by omega)
  . rw[e0,hk,hr];show _=(bz p.l&&(decide (p.n=0)&&(decide (p.s=[]) && !decide (p.l.length=1))));cases bz p.l<;>cases decide (p.n=0)<;>cases decide (p.s=[])<;>cases decide (p.l.length=1)<;>rfl
  . rw[e1,hk,fA];simp;rfl
 have L26:p.k=3->∀(r:Bool) H2 nx2,St (Mj fr nx p.v.cells.toList 41) bp nx0 H0 l0 b0 r [] 0 H2 nx2->r=(decide (p.l.length=0)&&(decide (p.s=[])&&decide (-4611686018427387903<=p.n)))->dJ P pl X0 (.jump (p8 (ptr bp) (.pointer (some ⟨nx,0,none⟩)) H2 nx2)) nx0 H0 (dW fr bp nx0 H0 l0 b0 (bx p) (fR p) (8*p.z-4)):=by
  intro hk r H2 nx2 hS2 hr;have hB:=qO (p:=p) hS2.get;have e2:bx p=(r&&decide (p.n<=4611686018427387903)):=by
   rw[e0,hk,hr];show(bz p.l&&(decide (p.s=[])&&(decide (p.l.length=0)&&(decide (-4611686018427387903<=p.n)&&decide (p.n<=4611686018427387903)))))=_
   by_cases g:p.l.length=0
   . rw[eL g];cases decide (p.s=[])<;>simp[g]
   . simp[g]
  have e3:fR p=if p.n<0 then[cN [126],⟨1,[],-p.n,0⟩]else[⟨1,[],p.n,0⟩]:=by rw[e1,hk];rfl
  have L28:∀c:Bool,c=(decide (p.n<0) && !(b0 || !r))->dJ P pl X0 (.jump (xw (ptr bp) (.pointer (some ⟨nx,0,none⟩)) c H2 nx2)) nx0 H0 (dW fr bp nx0 H0 l0 b0 (bx p) (fR p) (8*p.z-4)):=by
   intro c hc;refine Wq.jmp (Sc ..) (λ_=>rfl) ?_;cases c with
   | true=>
     have hc':=hc.symm;rw[Bool.and_eq_true,decide_eq_true_eq,Bool.not_eq_true',Bool.or_eq_false_iff,Bool.not_eq_false']at hc';obtain⟨hneg,hb0,hr1⟩:=hc';simp only[ab];have hge: -4611686018427387903<=p.n:=by
      rw[hr1]at hr;have:=hr.symm;rw[Bool.and_eq_true,Bool.and_eq_true,decide_eq_true_eq,decide_eq_true_eq,decide_eq_true_eq]at this;exact this.2.2
     refine Wq.lK [126] hS2 (by omega) λu H3 nx3 hS3=> ?_;have hB:=qO (p:=p) hS3.get;simp only[ab,jE,hB.2.1,yl];rw[bS (show -9223372036854775808<=0-p.n/\0-p.n<9223372036854775808 by omega)];refine Wq.zm (off:=1) (c':=(aB.mk p.k (0-p.n) p.s p.l).cs) (u:=i64 (0-p.n)) hS3 hn0 hne Rx rfl rfl (by show 1<p.cs.length;rw[aB.fe];simp) (by show p.cs.set 1 _=_;rw[aB.fe,aB.fe];rfl) λH4 hS4=> ?_;have hB4:=qO (p:=aB.mk p.k (0-p.n) p.s p.l) hS4.get;have hv:ai P H4 2 (some (.pointer (some ⟨nx,1,none⟩)))=some (i64 (0-p.n)):=hB4.2.1;simp only[ab,jE,hv,ym];refine Wq.aZ (eG ⟨1,[],0-p.n,0⟩ (by simp)) rfl hS4 (by omega) λu H5 nx5 hS5=> ?_;refine Wq.done hS5.drop ?_ (λ_=> ?_) (by omega)
     . rw[e2,hr1];have:aV ⟨1,[],0-p.n,0⟩=true:=by
        unfold aV;simp;omega
       rw[this];simp;omega
     . rw[e3,if_pos hneg];simp
   | false=>
     simp only[ab,jE,hB.2.1,ym];refine Wq.aZ (eG ⟨1,[],p.n,0⟩ (by simp)) rfl hS2 (by omega) λu H5 nx5 hS5=> ?_;have et:aV ⟨1,[],p.n,0⟩=(decide (0<=p.n)&&decide (p.n<=4611686018427387903)):=by
      unfold aV;simp
     by_cases hneg:p.n<0
     . have hb:(b0 || !r)=true:=by clear hS2 hS5;cases b0<;>cases r<;>simp[hneg]at hc ⊢
       have e4:aV ⟨1,[],p.n,0⟩=false:=by
        rw[et];simp;omega
       refine Wq.skip hS5.drop (by rw[e4];simp) (λg1 _=> ?_) (by omega);rw[g1]at hb;have:r=false:=by simpa using hb
       rw[e2,this];rfl
     . refine Wq.done hS5.drop ?_ (λ_=>by rw[e3,if_neg hneg];simp) (by omega);rw[e2,et];have:decide (0<=p.n)=true:=by simp;omega
       rw[this,Bool.true_and]
  refine Wq.jmp (R_ ..) (λ_=>rfl) ?_;simp only[ab,jE,hB.2.1];refine Wq.ite (λg=> ?_) (λg=> ?_)
  . simp only[ab,gb,hS2.bad];exact L28 _ (by simp[g])
  . exact L28 _ (by simp[g])
 refine Wq.ite (λhk=> ?_) (λh1=> ?_)
 . have e2:bx p=(decide (p.l.length=0)&&(decide (p.s=[])&&decide (p.n=0))):=by
    rw[e0,if_pos hk,hk];show(bz p.l&&(decide (p.n=0)&&(decide (p.s=[])&&decide (p.l.length=0))))=_
    by_cases g:p.l.length=0
    . rw[eL g];cases decide (p.n=0)<;>simp[g]
    . simp[g]
   have F:∀c:Bool,c=(decide (p.l.length=0)&&(decide (p.s=[])&&decide (p.n=0)))->dJ P pl X0 (bQ (.call 49 [ptr bp,.bool c] false none H1 (nx+1)) (λx H' nx'=> .jump (p7 (ptr bp) H' nx')) gg) nx0 H0 (dW fr bp nx0 H0 l0 b0 (bx p) (fR p) (8*p.z-4)):=by
    intro c hc;refine Wq.aZ (cf c) rfl hS1 (by omega) λu H2 nx2 hS2=> ?_;exact L14 hk _ _ _ hS2 (by rw[e2,hc];simp)
   refine Wq.ite (λg=> ?_) (λg=>F _ (by simp[g]));refine Wq.ite (λg2=> ?_) (λg2=>F _ (by simp[g2]));exact F _ (by simp[g,g2])
 rw[if_neg h1]at e1;refine Wq.ite (λhk=> ?_) (λh2=> ?_)
 . have F:∀c:Bool,c=(decide (p.l.length=0)&&decide (p.n=0))->dJ P pl X0 (bQ (.call 49 [ptr bp,.bool c] false none H1 (nx+1)) (λx H' nx'=> .jump (tq (ptr bp) (.pointer (some ⟨nx,0,none⟩)) H' nx')) gg) nx0 H0 (dW fr bp nx0 H0 l0 b0 (bx p) (fR p) (8*p.z-4)):=by
    intro c hc;refine Wq.aZ (cf c) rfl hS1 (by omega) λu H2 nx2 hS2=> ?_;exact L20 hk _ _ _ hS2 hc
   refine Wq.ite (λg=> ?_) (λg=>F _ (by simp[g]));exact F _ (by simp[g])
 rw[if_neg h2]at e1;refine Wq.ite (λhk=> ?_) (λh3=> ?_)
 . have F:∀c:Bool,c=(decide (p.l.length=0)&&(decide (p.s=[])&&decide (-4611686018427387903<=p.n)))->dJ P pl X0 (bQ (.call 49 [ptr bp,.bool c] false none H1 (nx+1)) (λx H' nx'=> .jump (p8 (ptr bp) (.pointer (some ⟨nx,0,none⟩)) H' nx')) gg) nx0 H0 (dW fr bp nx0 H0 l0 b0 (bx p) (fR p) (8*p.z-4)):=by
    intro c hc;refine Wq.aZ (cf c) rfl hS1 (by omega) λu H2 nx2 hS2=> ?_;exact L26 hk _ _ _ hS2 hc
   refine Wq.ite (λg=> ?_) (λg=>F _ (by simp[g]));refine Wq.ite (λg2=> ?_) (λg2=>F _ (by simp[g2]));exact F _ (by simp[g,g2])
 rw[if_neg h3]at e1;refine Wq.ite (λhk=> ?_) (λh4=> ?_)
 . have F:∀c:Bool,c=(decide (p.l.length=0)&&decide (p.n=0))->dJ P pl X0 (bQ (.call 49 [ptr bp,.bool c] false none H1 (nx+1)) (λx H' nx'=> .jump (tt (ptr bp) (.pointer (some ⟨nx,0,none⟩)) H' nx')) gg) nx0 H0 (dW fr bp nx0 H0 l0 b0 (bx p) (fR p) (8*p.z-4)):=by
    intro c hc;refine Wq.aZ (cf c) rfl hS1 (by omega) λu H2 nx2 hS2=> ?_;exact L38 hk _ _ _ hS2 hc
   refine Wq.ite (λg=> ?_) (λg=>F _ (by simp[g]));exact F _ (by simp[g])
 rw[if_neg h4]at e1;refine Wq.ite (λhk=> ?_) (λh5=> ?_)
 . have F:∀c:Bool,c=(!decide (p.l.length=1)&&(decide (p.s=[])&&decide (p.n=0)))->dJ P pl X0 (bQ (.call 49 [ptr bp,.bool c] false none H1 (nx+1)) (λx H' nx'=> .jump (p9 (ptr bp) (.pointer (some ⟨nx,0,none⟩)) H' nx')) gg) nx0 H0 (dW fr bp nx0 H0 l0 b0 (bx p) (fR p) (8*p.z-4)):=by
    intro c hc;refine Wq.aZ (cf c) rfl hS1 (by omega) λu H2 nx2 hS2=> ?_;exact L44 hk _ _ _ hS2 hc
   refine Wq.gj (λg=> ?_) (λg=>F _ (by simp[g]));refine Wq.ite (λg2=> ?_) (λg2=>F _ (by simp[g2]));exact F _ (by simp[g,g2])
 rw[if_neg h5]at e1;refine Wq.ite (λhk=> ?_) (λh6=> ?_)
 . refine Wq.aZ (h163 hk) rfl hS1 (by omega) λu H2 nx2 hS2=> ?_;exact Wq.done hS2.drop (by simp) (λ_=>by simp) (by omega)
 . rw[if_neg h6]at e1;have e2:bx p=false:=by
    rw[e0,if_neg h1,if_neg h2,if_neg h3,if_neg h4,if_neg h5,if_neg h6];simp
   refine Wq.bad hS1 λH2 hS2=> ?_;exact Wq.done hS2.drop e2.symm (λq=>by rw[e2]at q;cases q) (by omega)
theorem AM (p:aB)(hp:p.ok):gH 52 [p.v] (bx p) (fR p) (8*p.z-4)/\gH 55 [p.v] (bx p) (aS p) (8*p.z-2)/\∀a,a∈p.l->gH 55 [a.v] (bx a) (aS a) (8*a.z-2):=by
 refine aB.ind (p:=λp=>p.ok->gH 52 [p.v] (bx p) (fR p) (8*p.z-4)/\gH 55 [p.v] (bx p) (aS p) (8*p.z-2)/\∀a,a∈p.l->gH 55 [a.v] (bx a) (aS a) (8*a.z-2)) (λp ih hp=> ?_) p hp;have hp':=(aB.bm p).1 hp;have h1:∀a,a∈p.l->gH 55 [a.v] (bx a) (aS a) (8*a.z-2):=λa ha=>(ih a ha (hp'.2.2.2 a ha)).2.1;have h:=KY p hp (N2 p.l hp'.2.2.1 h1) λhk=>N3 p hk hp h1 λq hq=>(ih q hq (hp'.2.2.2 q hq)).2.2;exact⟨h,N1 p h,h1⟩
theorem N4 (p:aB)(hp:p.ok):gH 52 [p.v] (bx p) (fR p) (8*p.z-4):=(AM p hp).1
theorem AN (p:aB)(hp:p.ok):gH 55 [p.v] (bx p) (aS p) (8*p.z-2):=(AM p hp).2.1
end
end
end Go.Proofs.YthjhonhhbddhkaaDoor
