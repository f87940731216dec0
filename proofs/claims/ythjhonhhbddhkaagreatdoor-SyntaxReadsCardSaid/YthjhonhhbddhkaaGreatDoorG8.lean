/- Texts of this claim, side by side. -/
import Derived.Test.YthjhonhhbddhkaaGreatDoorG7
namespace Go.Proofs.YthjhonhhbddhkaaGreatDoor
open Go.Ev Go.RowKit
noncomputable section
set_option maxRecDepth 100000
set_option linter.unusedVariables false
set_option linter.unusedSimpArgs false
set_option maxHeartbeats 8000000
section
variable {nx0 nx nx' bp k:Nat}{H0 H H':T OB}{F A B G G':List Bx}{s:Bx}{R:Go.Ev.Out->T OB->Nat->Prop}{b:Nat}{l:List Value}{e t:TypeId}{L:List Tok}
abbrev fK (L:List Tok):Value:=bn 4 (L.map Tok.v)
abbrev cQ (bp:Nat)(L:List Tok)(k:Nat):Bx:=(bp,[fK L,i64 (k:Int)],73)
theorem Sq.dO {f:FuncId}{args:List Value}{u:Value}{kt p:Value->T OB->Nat->Q}{F':List Bx}(hx:X0 f args=none)(h:aO P pl X0 (aQ P pl (.call f args false none H nx)) nx0 H0 (λo H nx=>o= .ret u/\Hp nx0 H0 F' H nx))
 (hk:∀H' nx',Hp nx0 H0 F' H' nx'->aO P pl X0 (kt u H' nx') nx0 H0 R):aO P pl X0 (aj (.call f args false none H nx) kt p) nx0 H0 R:=
 Wq.gM hx h (λv H' nx' _ q=>by
  obtain⟨q1,q2⟩:=q;cases q1;exact hk H' nx' q2) (λv H' nx' _ q=>by cases q.1)
theorem fD {u:Value}{F':List Bx}(h:Hp nx0 H0 F' H nx):aO P pl X0 (.ret ⟨.ret u,false,H,nx⟩) nx0 H0 (λo H nx=>o= .ret u/\Hp nx0 H0 F' H nx):=Wq.ic h.ag ⟨rfl,h⟩
theorem dB {u v:Value}{F':List Bx}(e:u=v)(h:Hp nx0 H0 F' H nx):aO P pl X0 (.ret ⟨.ret u,false,H,nx⟩) nx0 H0 (λo H nx=>o= .ret v/\Hp nx0 H0 F' H nx):=by subst e;exact fD h
theorem gb {L:List Tok}{k:Nat}(h:(tk L k).k≠0):k<L.length:=by
 unfold tk at h;cases hk:L[k]? with
 | none=>rw[hk]at h;exact absurd rfl h
 | some t=>exact(List.getElem?_eq_some_iff.1 hk).1
theorem jY {L:List Tok}{k:Nat}{w:List UInt8}(h:dN L k w=true):k<L.length:=by
 refine gb λq=> ?_;unfold dN jT at h;rw[q]at h;simp at h
theorem pk (h:Hp nx0 H0 (cQ bp L k::F) H nx):ae P H 3 (some (.pointer (some ⟨bp,1,none⟩)))=some (i64 (k:Int)):=aw (h.at_ 0 rfl) m_ rfl
theorem Y6 (h:Hp nx0 H0 (cQ bp L k::F) H nx):ae P H 29 (some (.pointer (some ⟨bp,0,none⟩)))=some (fK L):=aw (h.at_ 0 rfl) HE rfl
theorem zQ {c0 c1 c2 c3:Value}(h:cR H b [c0,c1,c2,c3] 31):ae P H 31 (some (.pointer (some ⟨b,0,none⟩)))=some (.agg ⟨[c0,c1,c2,c3]⟩):=by
 rw[bY h si dy (by simp)];rfl
theorem Uk (h:Hp nx0 H0 (cQ bp L k::F) H nx):aO P pl X0 (aQ P pl (.call 59 [ptr bp] false none H nx)) nx0 H0 (λo H nx=>o= .ret (tk L k).v/\Hp nx0 H0 (cQ bp L k::F) H nx):=by
 rw[YI];refine Hq.alloc cB h λx0 H1 aE h1=> ?_;simp only[af,pk h1,Y6 h1,List.length_map];refine Wq.ite (λhlt=> ?_) (λhge=> ?_)
 . have hlt':k<L.length:=by omega
   have hg:L[k]? = some L[k]:=List.getElem?_eq_getElem hlt';have hx:(L.map Tok.v)[k]? = some L[k].v:=by simp[hg]
   simp only[af,Ds hx];refine Hq.store [cQ bp L k] h1 dy (by simp) rfl rfl λH2 h2=> ?_;simp only[af,zQ (h2.at_ 1 rfl)];refine dB ?_ h2.jm;show _=(tk L k).v;unfold tk;rw[hg];rfl
 . refine Hq.store [cQ bp L k] h1 dy (by simp) rfl rfl λH2 h2=> ?_;simp only[af,zQ (h2.at_ 1 rfl)];refine dB ?_ h2.jm;show _=(tk L k).v;unfold tk;rw[List.getElem?_eq_none (by omega)];rfl
theorem Sq.now {kt p:Value->T OB->Nat->Q}(h:Hp nx0 H0 (cQ bp L k::F) H nx)(hk:∀H' nx',Hp nx0 H0 (cQ bp L k::F) H' nx'->aO P pl X0 (kt (tk L k).v H' nx') nx0 H0 R):aO P pl X0 (aj (.call 59 [ptr bp] false none H nx) kt p) nx0 H0 R:=Sq.dO rfl (Uk h) hk
theorem Sq.Ew {kt:T OB->Nat->Q}(h:Hp nx0 H0 F H nx)(hk:∀H' nx',Hp nx0 H0 F H' nx'->aO P pl X0 (kt H' nx') nx0 H0 R):aO P pl X0 (ao (au P H nx 31) λp H nx=>bF P H nx 31 (some p) (tk L k).v kt) nx0 H0 R:=Hq.var cB dy rfl rfl rfl h hk
theorem Ul {a b:Bool}{x y:Q}(h:(a||b)=true->aO P pl X0 x nx0 H0 R)(h':(a||b)=false->aO P pl X0 y nx0 H0 R):aO P pl X0 (Ev.bK a x (Ev.bK b x y)) nx0 H0 R:=by
 cases a with
 | true=>exact h rfl
 | false=>
   cases b with
   | true=>exact h rfl
   | false=>exact h' rfl
theorem Ex (a b:List UInt8):decide ((⟨⟨a⟩⟩:ByteArray)=⟨⟨b⟩⟩)=decide (a=b):=by rw[decide_eq_decide];simp
theorem Rk (w:List UInt8)(h:Hp nx0 H0 (cQ bp L k::F) H nx):aO P pl X0 (aQ P pl (.call 109 [ptr bp,aD w] false none H nx)) nx0 H0 (λo H nx=>o= .ret (.bool (dN L k w))/\Hp nx0 H0 (cQ bp L k::F) H nx):=by
 rw[Wd];refine Sq.now h λH1 aE h1=> ?_;refine Sq.Ew h1 λH2 nx2 h2=> ?_;simp only[af];refine Ul (λhw=> ?_) (λhw=> ?_)
 . refine dB ?_ h2;unfold dN jT;rw[hw,Bool.true_and,Ex]
 . refine dB ?_ h2;unfold dN jT;rw[hw,Bool.false_and]
theorem Sq.is {w:List UInt8}{kt p:Value->T OB->Nat->Q}(h:Hp nx0 H0 (cQ bp L k::F) H nx)(hk:∀H' nx',Hp nx0 H0 (cQ bp L k::F) H' nx'->aO P pl X0 (kt (.bool (dN L k w)) H' nx') nx0 H0 R):aO P pl X0 (aj (.call 109 [ptr bp,aD w] false none H nx) kt p) nx0 H0 R:=Sq.dO rfl (Rk w h) hk
theorem Um:bq P 3=some 1:=by kernel_rfl
theorem dU (h:Hp nx0 H0 (cQ bp L k::F) H nx){kt:Value->T OB->Nat->Q}(hk:∀H',Hp nx0 H0 (cQ bp L (k+1)::F) H' nx->aO P pl X0 (kt undef H' nx) nx0 H0 R):aO P pl X0 (ao (ah P H nx 3 (some (.pointer (some ⟨bp,1,none⟩))) (some (i64 ((k:Int)+1)))) kt) nx0 H0 R:=
 Hq.put [] h Um rfl rfl (show 1<2 by omega) rfl λH' h'=>hk H' h'
theorem dE (hL:L.length<=100000)(hlt:k<L.length):IntKind.i64.wrap ((k:Int)+1)=(k:Int)+1:=by rw[aG (by omega)];rfl
theorem OK (w:List UInt8)(hL:L.length<=100000)(h:Hp nx0 H0 (cQ bp L k::F) H nx):aO P pl X0 (aQ P pl (.call 62 [ptr bp,aD w] false none H nx)) nx0 H0 (λo H nx=>o= .ret (.bool (dN L k w))/\Hp nx0 H0 (cQ bp L (if dN L k w=true then k+1 else k)::F) H nx):=by
 rw[YL];refine Sq.is h λH1 aE h1=> ?_;cases hi:dN L k w with
 | false=>
   simp only[af];exact fD h1
 | true=>
   simp only[af,pk h1,dE hL (jY hi)];exact dU h1 λH2 h2=>fD h2
theorem Sq.take {w:List UInt8}{kt p:Value->T OB->Nat->Q}(hL:L.length<=100000)(h:Hp nx0 H0 (cQ bp L k::F) H nx)(ht:dN L k w=true->∀H' nx',Hp nx0 H0 (cQ bp L (k+1)::F) H' nx'->aO P pl X0 (kt (.bool true) H' nx') nx0 H0 R)
 (hf:dN L k w=false->∀H' nx',Hp nx0 H0 (cQ bp L k::F) H' nx'->aO P pl X0 (kt (.bool false) H' nx') nx0 H0 R):aO P pl X0 (aj (.call 62 [ptr bp,aD w] false none H nx) kt p) nx0 H0 R:=
 Sq.dO rfl (OK w hL h) λH' nx' h'=>by
  cases hi:dN L k w with
  | true=>rw[hi]at h';exact ht hi H' nx' h'
  | false=>rw[hi]at h';exact hf hi H' nx' h'
theorem Sq.skip {w:List UInt8}{kt p:Value->T OB->Nat->Q}(hL:L.length<=100000)(h:Hp nx0 H0 (cQ bp L k::F) H nx)(hk:∀b H' nx',Hp nx0 H0 (cQ bp L (skip L w k)::F) H' nx'->aO P pl X0 (kt (.bool b) H' nx') nx0 H0 R):aO P pl X0 (aj (.call 62 [ptr bp,aD w] false none H nx) kt p) nx0 H0 R:=
 Sq.dO rfl (OK w hL h) λH' nx' h'=>hk _ H' nx' h'
abbrev jZ (a:Int):Value:= .iface 69 (.agg ⟨[i64 a]⟩)
def End {α:Type}(nx0:Nat)(H0:T OB)(bp:Nat)(L:List Tok)(F:List Bx)(vf:α->Value):iZ α->Go.Ev.Out->T OB->Nat->Prop
 | .ok a k=>λo H nx=>o= .ret (vf a)/\Hp nx0 H0 (cQ bp L k::F) H nx
 | .bad a=>λo H nx=>o= .gj (jZ a)
def bL {α:Type}(f:FuncId)(L:List Tok)(vf:α->Value)(r:Nat->PR α):Prop:=∀nx0 nx H0 H bp F k o,r k=some o->Hp nx0 H0 (cQ bp L k::F) H nx->aO P pl X0 (aQ P pl (.call f [ptr bp] false none H nx)) nx0 H0 (End nx0 H0 bp L F vf o)
theorem End.ret {α:Type}{vf:α->Value}{a:α}{u:Value}{o:iZ α}(ho:yes a k=some o)(e:u=vf a)(h:Hp nx0 H0 (cQ bp L k::F) H nx):aO P pl X0 (.ret ⟨.ret u,false,H,nx⟩) nx0 H0 (End nx0 H0 bp L F vf o):=by
 cases ho;exact Wq.ic h.ag ⟨by rw[e],h⟩
theorem Sq.ar {α:Type}{vf:α->Value}{a:Int}(hA:Ag nx0 H0 nx H):aO P pl X0 (ar (jZ a) H nx) nx0 H0 (End nx0 H0 bp L F vf (.bad a)):=Wq.ic hA rfl
theorem Un (x:Value):jB P 69 (some (.agg ⟨[x]⟩))=some (.iface 69 (.agg ⟨[x]⟩)):=by kernel_rfl
theorem Uo (x:Int):az P 69 (some [(0,i64 x)])=some (.agg ⟨[i64 x]⟩):=bt (z:=[.int .i64 0]) (by kernel_rfl) (by kernel_rfl)
theorem Bf (h:Hp nx0 H0 (cQ bp L k::F) H nx):aO P pl X0 (aQ P pl (.call 150 [ptr bp] false none H nx)) nx0 H0 (λo _ _=>o= .gj (jZ (tk L k).at_)):=by
 rw[WD];refine Sq.now h λH1 aE h1=> ?_;simp only[af,Uo,Un];exact Wq.ic (R:=λo _ _=>o= .gj (jZ (tk L k).at_)) h1.ag rfl
theorem Sq.fail {α β:Type}{vf:α->Value}{o:iZ α}{kt:Value->T OB->Nat->Q}(ho:kS L k=some o)(h:Hp nx0 H0 (cQ bp L k::G) H nx):aO P pl X0 (aj (.call 150 [ptr bp] false none H nx) kt Ev.ar) nx0 H0 (End nx0 H0 bp L F vf o):=by
 cases ho;exact Wq.gM rfl (Bf h) (λu H' nx' _ q=>by cases q) λu H' nx' hA q=>by cases q;exact Sq.ar hA
theorem Sq.call {α β:Type}{f:FuncId}{vf:α->Value}{vg:β->Value}{r:Nat->PR α}{g:α->Nat->PR β}{o:iZ β}{kt:Value->T OB->Nat->Q}(hs:bL f L vf r)(hx:X0 f [ptr bp]=none)(h:Hp nx0 H0 (cQ bp L k::G) H nx)(ho:bd (r k) g=some o)
 (hk:∀a k' H' nx',r k=some (.ok a k')->g a k'=some o->Hp nx0 H0 (cQ bp L k'::G) H' nx'->aO P pl X0 (kt (vf a) H' nx') nx0 H0 (End nx0 H0 bp L F vg o)):aO P pl X0 (aj (.call f [ptr bp] false none H nx) kt Ev.ar) nx0 H0 (End nx0 H0 bp L F vg o):=by
 cases hr:r k with
 | none=>rw[hr]at ho;cases ho
 | some q=>
   refine Wq.gM hx (hs nx0 nx H0 H bp G k q hr h) (λu H' nx' _ he=> ?_) (λu H' nx' hA he=> ?_)
   . cases q with
     | bad a=>cases he
     | ok a k'=>
       rw[hr,Eu]at ho;cases he.1;exact hk a k' H' nx' hr ho he.2
   . cases q with
     | ok a k'=>cases he.1
     | bad a=>
       rw[hr,xn]at ho;cases ho;cases he;exact Sq.ar hA
theorem Sq.kh {β:Type}{w:List UInt8}{vg:β->Value}{g:Nat->PR β}{o:iZ β}{kt:Value->T OB->Nat->Q}(hL:L.length<=100000)(h:Hp nx0 H0 (cQ bp L k::G) H nx)(ho:aZ L w k g=some o)
 (hk:∀H' nx',dN L k w=true->g (k+1)=some o->Hp nx0 H0 (cQ bp L (k+1)::G) H' nx'->aO P pl X0 (kt (.tuple ⟨[]⟩) H' nx') nx0 H0 (End nx0 H0 bp L F vg o)):aO P pl X0 (aj (.call 106 [ptr bp,aD w] false none H nx) kt Ev.ar) nx0 H0 (End nx0 H0 bp L F vg o):=by
 unfold aZ at ho;cases hi:dN L k w with
 | true=>
   rw[hi,if_pos rfl]at ho;refine Sq.dO rfl ?_ λH' nx' h'=>hk H' nx' hi ho h';rw[TR];refine Sq.take hL h (λ_ H1 aE h1=> ?_) (λq=>by rw[q]at hi;cases hi);simp only[af];exact fD h1
 | false=>
   rw[hi,if_neg (by simp)]at ho;cases ho;refine Wq.gM (R1:=λo _ _=>o= .gj (jZ (tk L k).at_)) rfl ?_ (λu H' nx' _ q=>by cases q) λu H' nx' hA q=>by cases q;exact Sq.ar hA
   rw[TR];refine Sq.take hL h (λq=>by rw[q]at hi;cases hi) (λ_ H1 aE h1=> ?_);simp only[af];exact Wq.gM rfl (Bf h1) (λu H' nx' _ q=>by cases q) λu H' nx' hA q=>by cases q;exact Wq.ic hA rfl
theorem Rm (c:Int)(hL:L.length<=100000)(hc:c≠0)(h:Hp nx0 H0 (cQ bp L k::F) H nx):aO P pl X0 (aQ P pl (.call 146 [ptr bp,i64 c] false none H nx)) nx0 H0 (End nx0 H0 bp L F Tok.v (if(tk L k).k=c then .ok (tk L k) (k+1)else .bad (tk L k).at_)):=by
 rw[Wz];refine Hq.alloc cB h λx0 H1 aE h1=> ?_;refine Sq.now h1 λH2 nx2 h2=> ?_;refine Sq.Ew h2 λH3 nx3 h3=> ?_;simp only[af];refine Wq.bK (λq=> ?_) (λq=> ?_)
 . have hne:¬(tk L k).k=c:=by simpa using q
   rw[if_neg hne];exact Wq.gM rfl (Bf h3) (λu H' nx' _ q=>by cases q) λu H' nx' hA q=>by cases q;exact Sq.ar hA
 . have he:(tk L k).k=c:=by simpa using q
   rw[if_pos he];have hlt:k<L.length:=gb (by rw[he];exact hc);refine Wq.jmp (Lm ..) (λ_=>rfl) ?_;simp only[af,pk h3,dE hL hlt];refine dU h3 λH4 h4=> ?_;refine Hq.store [cQ bp L (k+1)] h4 dy (by simp) rfl rfl λH5 h5=> ?_;simp only[af,zQ (h5.at_ 1 rfl)];exact Wq.ic h5.ag ⟨rfl,h5.jm⟩
theorem Sq.word {β:Type}{c:Int}{vg:β->Value}{g:Tok->Nat->PR β}{o:iZ β}{kt:Value->T OB->Nat->Q}(hc:c≠0)(hL:L.length<=100000)(h:Hp nx0 H0 (cQ bp L k::G) H nx)(ho:bC L c k g=some o)
 (hk:∀H' nx',(tk L k).k=c->g (tk L k) (k+1)=some o->Hp nx0 H0 (cQ bp L (k+1)::G) H' nx'->aO P pl X0 (kt (tk L k).v H' nx') nx0 H0 (End nx0 H0 bp L F vg o)):aO P pl X0 (aj (.call 146 [ptr bp,i64 c] false none H nx) kt Ev.ar) nx0 H0 (End nx0 H0 bp L F vg o):=by
 unfold bC at ho;have h1:=Rm c hL hc h
 by_cases hi:(tk L k).k=c
 . rw[if_pos hi]at ho h1;refine Wq.gM rfl h1 (λu H' nx' _ q=> ?_) (λu H' nx' hA q=>by cases q.1);cases q.1;exact hk H' nx' hi ho q.2
 . rw[if_neg hi]at ho h1;cases ho;exact Wq.gM rfl h1 (λu H' nx' _ q=>by cases q) λu H' nx' hA q=>by cases q;exact Sq.ar hA
theorem Rn (h:Hp nx0 H0 (cQ bp L k::F) H nx):aO P pl X0 (aQ P pl (.call 152 [ptr bp] false none H nx)) nx0 H0 (λo H nx=>o= .ret (aD (if jT L k=true then(tk L k).s else[]))/\Hp nx0 H0 (cQ bp L k::F) H nx):=by
 rw[WG];refine Sq.now h λH1 aE h1=> ?_;refine Sq.Ew h1 λH2 nx2 h2=> ?_;have J:∀b,jT L k=b->aO P pl X0 (.jump (wR (ak (tk L k).v) b H2 nx2)) nx0 H0 (λo H nx=>o= .ret (aD (if jT L k=true then(tk L k).s else[]))/\Hp nx0 H0 (cQ bp L k::F) H nx):=by
  intro b hb;refine Wq.jmp (Qv ..) (λ_=>rfl) ?_;cases b with
  | true=>simp only[af];exact dB (by rw[hb,if_pos rfl]) h2
  | false=>simp only[af];exact dB (by rw[hb,if_neg (by simp)]) h2
 simp only[af];refine Wq.ite (λq=>J true (by unfold jT;simp[q])) (λq=>J _ (by unfold jT;simp[q]))
theorem Sq.op {kt p:Value->T OB->Nat->Q}(h:Hp nx0 H0 (cQ bp L k::F) H nx)(hk:∀H' nx',Hp nx0 H0 (cQ bp L k::F) H' nx'->aO P pl X0 (kt (aD (if jT L k=true then(tk L k).s else[])) H' nx') nx0 H0 R):aO P pl X0 (aj (.call 152 [ptr bp] false none H nx) kt p) nx0 H0 R:=Sq.dO rfl (Rn h) hk
theorem Ro (h:Hp nx0 H0 (cQ bp L k::F) H nx):aO P pl X0 (aQ P pl (.call 179 [ptr bp] false none H nx)) nx0 H0 (λo H nx=>o= .ret (.bool (lP L k))/\Hp nx0 H0 (cQ bp L k::F) H nx):=by
 rw[WV];refine Sq.now h λH1 aE h1=> ?_;have J:∀b,jU L k=b->aO P pl X0 (.jump (lA (ptr bp) b H1 aE)) nx0 H0 (λo H nx=>o= .ret (.bool (lP L k))/\Hp nx0 H0 (cQ bp L k::F) H nx):=by
  intro b hb;refine Wq.jmp (LA ..) (λ_=>rfl) ?_;unfold lP;rw[hb];cases b with
  | true=>simp only[af];exact fD h1
  | false=>
    simp only[af];refine Sq.is h1 λH2 nx2 h2=> ?_;cases dN L k [40]with
    | true=>simp only[af];exact fD h2
    | false=>
      simp only[af];refine Sq.is h2 λH3 nx3 h3=> ?_;simp only[af];exact fD h3
 have e:jU L k=(decide ((tk L k).k=1)||(decide ((tk L k).k=2)||(decide ((tk L k).k=3)||decide ((tk L k).k=4)))):=rfl
 revert e J
 simp only[af];generalize decide ((tk L k).k=1)=c1;generalize decide ((tk L k).k=2)=c2;generalize decide ((tk L k).k=3)=c3;generalize decide ((tk L k).k=4)=c4;intro J e;cases c1 with
 | true=>exact J true e
 | false=>
   cases c2 with
   | true=>exact J true e
   | false=>
     cases c3 with
     | true=>exact J true e
     | false=>exact J c4 e
theorem Sq.Xq {kt p:Value->T OB->Nat->Q}(h:Hp nx0 H0 (cQ bp L k::F) H nx)(hk:∀H' nx',Hp nx0 H0 (cQ bp L k::F) H' nx'->aO P pl X0 (kt (.bool (lP L k)) H' nx') nx0 H0 R):aO P pl X0 (aj (.call 179 [ptr bp] false none H nx) kt p) nx0 H0 R:=Sq.dO rfl (Ro h) hk
theorem Rp (h:Hp nx0 H0 (cQ bp L k::F) H nx):aO P pl X0 (aQ P pl (.call 176 [ptr bp] false none H nx)) nx0 H0 (λo H nx=>o= .ret (.bool (kT L k))/\Hp nx0 H0 (cQ bp L k::F) H nx):=by
 rw[WS];refine Sq.now h λH1 aE h1=> ?_;have J:∀b,jU L k=b->aO P pl X0 (.jump (lz (ptr bp) b H1 aE)) nx0 H0 (λo H nx=>o= .ret (.bool (kT L k))/\Hp nx0 H0 (cQ bp L k::F) H nx):=by
  intro b hb;refine Wq.jmp (Lw ..) (λ_=>rfl) ?_;unfold kT;rw[hb];cases b with
  | true=>simp only[af];exact fD h1
  | false=>
    simp only[af];refine Sq.is h1 λH2 nx2 h2=> ?_;cases dN L k [40]with
    | true=>simp only[af];exact fD h2
    | false=>
      simp only[af];refine Sq.is h2 λH3 nx3 h3=> ?_;cases dN L k [95]with
      | true=>simp only[af];exact fD h3
      | false=>
        simp only[af];refine Sq.is h3 λH4 nx4 h4=> ?_;simp only[af];exact fD h4
 have e:jU L k=(decide ((tk L k).k=1)||(decide ((tk L k).k=2)||(decide ((tk L k).k=3)||decide ((tk L k).k=4)))):=rfl
 revert e J
 simp only[af];generalize decide ((tk L k).k=1)=c1;generalize decide ((tk L k).k=2)=c2;generalize decide ((tk L k).k=3)=c3;generalize decide ((tk L k).k=4)=c4;intro J e;cases c1 with
 | true=>exact J true e
 | false=>
   cases c2 with
   | true=>exact J true e
   | false=>
     cases c3 with
     | true=>exact J true e
     | false=>exact J c4 e
theorem Sq.Jq {kt p:Value->T OB->Nat->Q}(h:Hp nx0 H0 (cQ bp L k::F) H nx)(hk:∀H' nx',Hp nx0 H0 (cQ bp L k::F) H' nx'->aO P pl X0 (kt (.bool (kT L k)) H' nx') nx0 H0 R):aO P pl X0 (aj (.call 176 [ptr bp] false none H nx) kt p) nx0 H0 R:=Sq.dO rfl (Rp h) hk
theorem qq {L:List Tok}{k:Nat}(h:iU L k=true):k<L.length:=by
 unfold iU at h;rw[Bool.or_eq_true]at h
 rcases h with h | h
 . exact gb (by have:(tk L k).k=3:=by simpa using h
                omega)
 . exact jY h
theorem Rr (hL:L.length<=100000)(h:Hp nx0 H0 (cQ bp L k::F) H nx):aO P pl X0 (aQ P pl (.call 187 [ptr bp] false none H nx)) nx0 H0 (λo H nx=>o= .ret (if iU L k=true then .tuple ⟨[aD (tk L k).s,.bool true]⟩else .tuple ⟨[aD [],.bool false]⟩)/\Hp nx0 H0 (cQ bp L (if iU L k=true then k+1 else k)::F) H nx):=by
 rw[WZ];refine Sq.now h λH1 aE h1=> ?_;refine Sq.Ew h1 λH2 nx2 h2=> ?_;have J:∀b H3 nx3,iU L k=b->Hp nx0 H0 (cQ bp L k::F) H3 nx3->aO P pl X0 (.jump (wY (ptr bp) (ak (tk L k).v) b H3 nx3)) nx0 H0 (λo H nx=>o= .ret (if iU L k=true then .tuple ⟨[aD (tk L k).s,.bool true]⟩else .tuple ⟨[aD [],.bool false]⟩)/\Hp nx0 H0 (cQ bp L (if iU L k=true then k+1 else k)::F) H nx):=by
  intro b H3 nx3 hb h3;refine Wq.jmp (Qz ..) (λ_=>rfl) ?_;cases b with
  | true=>
    simp only[af,pk h3,dE hL (qq hb)];refine dU h3 λH4 h4=> ?_;rw[hb,if_pos rfl,if_pos rfl];exact fD h4
  | false=>
    simp only[af];rw[hb,if_neg (by simp),if_neg (by simp)];exact fD h3
 simp only[af];refine Wq.ite (λq=>J true H2 nx2 (by unfold iU;simp[q]) h2) (λq=> ?_);refine Sq.is h2 λH3 nx3 h3=> ?_;simp only[af];exact J _ H3 nx3 (by unfold iU;simp[q]) h3
theorem Sq.Rs {kt p:Value->T OB->Nat->Q}(hL:L.length<=100000)(h:Hp nx0 H0 (cQ bp L k::F) H nx)(ht:iU L k=true->∀H' nx',Hp nx0 H0 (cQ bp L (k+1)::F) H' nx'->aO P pl X0 (kt (.tuple ⟨[aD (tk L k).s,.bool true]⟩) H' nx') nx0 H0 R)
 (hf:iU L k=false->∀H' nx',Hp nx0 H0 (cQ bp L k::F) H' nx'->aO P pl X0 (kt (.tuple ⟨[aD [],.bool false]⟩) H' nx') nx0 H0 R):aO P pl X0 (aj (.call 187 [ptr bp] false none H nx) kt p) nx0 H0 R:=
 Sq.dO rfl (Rr hL h) λH' nx' h'=>by
  cases hi:iU L k with
  | true=>rw[hi,if_pos rfl]at h';rw[if_pos rfl];exact ht hi H' nx' h'
  | false=>rw[hi,if_neg (by simp)]at h';rw[if_neg (by simp)];exact hf hi H' nx' h'
theorem Ru (w:List UInt8):P0 154 [aD w] (.bool (decide (w=[58,61])||decide (w=[58,58]))):=Pure.of rfl λH nx=>by
 rw[WH];simp only[af,Ex];cases decide (w=[58,61])with
 | true=>simp only[af];exact Wq.ret (.refl _ _)
 | false=>simp only[af];exact Wq.ret (.refl _ _)
end
section
variable {L:List Tok}
def Tm {α:Type}(L:List Tok)(x:PR α)(m:Nat)(s:α->Nat):Prop:=∃r,x=some r/\∀a k',r=iZ.ok a k'->L.length-k'+s a<=m
variable {α β:Type}{m m' k:Nat}{s:β->Nat}{s1:α->Nat}
theorem Tm.bd {x:PR α}{f:α->Nat->PR β}(h:Tm L x m' s1)(hf:∀a k',L.length-k'+s1 a<=m'->Tm L (f a k') m s):Tm L (bd x f) m s:=by
 obtain⟨r,rfl,h2⟩:=h;cases r with
 | bad a=>exact⟨.bad a,rfl,λa k' q=>by cases q⟩
 | ok a k'=>exact hf a k' (h2 a k' rfl)
theorem Tm.tail {x:PR β}{s':β->Nat}(h:Tm L x m' s')(hf:∀a k',L.length-k'+s' a<=m'->L.length-k'+s a<=m):Tm L x m s:=by
 obtain⟨r,rfl,h2⟩:=h;exact⟨r,rfl,λa k' q=>hf a k' (h2 a k' q)⟩
theorem Tm.fail:Tm L (kS L k:PR β) m s:=⟨_,rfl,λa k' q=>by cases q⟩
theorem Tm.yes {a:β}(h:L.length-k+s a<=m):Tm L (yes a k) m s:=⟨_,rfl,λa' k' q=>by cases q;exact h⟩
theorem Tm.fq {w:List UInt8}{x y:PR β}(hx:k<L.length->Tm L x m s)(hy:Tm L y m s):Tm L (if dN L k w=true then x else y) m s:=by
 by_cases hi:dN L k w=true
 . rw[if_pos hi];exact hx (jY hi)
 . rw[if_neg hi];exact hy
theorem Tm.fh {c:Int}{x y:PR β}(hc:c≠0)(hx:k<L.length->Tm L x m s)(hy:Tm L y m s):Tm L (if(tk L k).k=c then x else y) m s:=by
 by_cases hi:(tk L k).k=c
 . rw[if_pos hi];exact hx (gb (by rw[hi];exact hc))
 . rw[if_neg hi];exact hy
theorem Tm.aZ {w:List UInt8}{f:Nat->PR β}(hf:k<L.length->Tm L (f (k+1)) m s):Tm L (aZ L w k f) m s:=by
 unfold Go.Proofs.YthjhonhhbddhkaaGreatDoor.aZ;exact Tm.fq hf Tm.fail
theorem Tm.bC {c:Int}{f:Tok->Nat->PR β}(hc:c≠0)(hf:k<L.length->Tm L (f (tk L k) (k+1)) m s):Tm L (bC L c k f) m s:=by
 unfold Go.Proofs.YthjhonhhbddhkaaGreatDoor.bC;exact Tm.fh hc hf Tm.fail
theorem Tm.cC {b:Bool}{x y:PR β}(hb:b=true->k<L.length)(hx:k<L.length->Tm L x m s)(hy:Tm L y m s):Tm L (if b=true then x else y) m s:=by
 by_cases hi:b=true
 . rw[if_pos hi];exact hx (hb hi)
 . rw[if_neg hi];exact hy
theorem qu (h:jU L k=true):k<L.length:=by
 refine gb λq=> ?_;unfold jU at h;rw[q]at h;simp at h
theorem Ey (h:jT L k=true):k<L.length:=by
 refine gb λq=> ?_;unfold jT at h;rw[q]at h;simp at h
theorem L3 {lv:Nat}(h:pD L lv k=true):k<L.length:=by
 unfold pD at h;rw[Bool.and_eq_true]at h;exact Ey h.1
theorem L4 {lv:Nat}(h:pD L lv k=true):lv<=6:=by
 unfold pD at h;rw[Bool.and_eq_true]at h;refine Nat.le_of_lt_succ (Decidable.byContradiction λq=> ?_);have:bE[lv]? = none:=List.getElem?_eq_none (by simpa[bE]using Nat.le_of_not_lt q);rw[this]at h;simp at h
theorem L5 (h:unOp L k=true):k<L.length:=by
 unfold unOp at h;rw[Bool.and_eq_true]at h;exact Ey h.1
theorem L7 (h:lP L k=true):k<L.length:=by
 unfold lP at h;rw[Bool.or_eq_true,Bool.or_eq_true]at h
 rcases h with h | h | h
 . exact qu h
 . exact jY h
 . exact jY h
theorem Ez (h:kT L k=true):k<L.length:=by
 unfold kT at h;rw[Bool.or_eq_true,Bool.or_eq_true,Bool.or_eq_true]at h
 rcases h with h | h | h | h
 . exact qu h
 . exact jY h
 . exact jY h
 . exact jY h
theorem xy {w:List UInt8}:L.length-skip L w k<=L.length-k:=by
 unfold skip
 by_cases hi:dN L k w=true
 . rw[if_pos hi];omega
 . rw[if_neg hi];exact Nat.le_refl _
structure fi (L:List Tok)(n:Nat)(p:PS):Prop where
 exp:∀k,12*(L.length-k)+10<n->Tm L (p.exp k) (L.length-k) (λ_=>1)
 fO:∀e k,12*(L.length-k)+2<n->Tm L (p.fO e k) (L.length-k) (λ_=>1)
 bin:∀lv k,lv<=7->12*(L.length-k)+(9-lv)<n->Tm L (p.bin lv k) (L.length-k) (λ_=>1)
 fy:∀lv a k,12*(L.length-k)<n->Tm L (p.fy lv a k) (L.length-k) (λ_=>0)
 un:∀k,12*(L.length-k)+1<n->Tm L (p.un k) (L.length-k) (λ_=>1)
 fP:∀e k,12*(L.length-k)+1<n->Tm L (p.fP e k) (L.length-k) (λ_=>0)
 atom:∀k,12*(L.length-k)+0<n->Tm L (p.atom k) (L.length-k) (λ_=>1)
 dQ:∀w e k,12*(L.length-k)+0<n->Tm L (p.dQ w e k) (L.length-k) (λ_=>0)
 lt:∀k,12*(L.length-k)+1<n->Tm L (p.lt k) (L.length-k) (λ_=>1)
 ga:∀e k,12*(L.length-k)+1<n->Tm L (p.ga e k) (L.length-k) (λ_=>1)
 pat:∀k,12*(L.length-k)+1<n->Tm L (p.pat k) (L.length-k) (λ_=>1)
 bw:∀k,12*(L.length-k)+0<n->Tm L (p.bw k) (L.length-k) (λ_=>1)
 fQ:∀e k,12*(L.length-k)+0<n->Tm L (p.fQ e k) (L.length-k) (λ_=>0)
 dT:∀k,12*(L.length-k)+1<n->Tm L (p.dT k) (L.length-k) (λ_=>1)
 dA:∀e k,12*(L.length-k)+0<n->Tm L (p.dA e k) (L.length-k) (λ_=>0)
 post:∀k,12*(L.length-k)+0<n->Tm L (p.post k) (L.length-k) (λ_=>1)
 mC:∀e k,12*(L.length-k)+0<n->Tm L (p.mC e k) (L.length-k) (λ_=>0)
 cP:∀e k,12*(L.length-k)+0<n->Tm L (p.cP e k) (L.length-k) (λ_=>0)
 dY:∀k,12*(L.length-k)+0<n->Tm L (p.dY k) (L.length-k) (λ_=>1)
 bind:∀k,12*(L.length-k)+0<n->Tm L (p.bind k) (L.length-k) (λd=>if Option.isSome d=true then 1 else 0)
 fA:∀e k,12*(L.length-k)+0<n->Tm L (p.fA e k) (L.length-k) (λ_=>0)
 fn:∀k,12*(L.length-k)+0<n->Tm L (p.fn k) (L.length-k) (λ_=>1)
 mD:∀e k,12*(L.length-k)+1<n->Tm L (p.mD e k) (L.length-k) (λ_=>0)
 dec:∀k,12*(L.length-k)+1<n->Tm L (p.dec k) (L.length-k) (λd=>if Option.isSome d=true then 1 else 0)
 data:∀k,12*(L.length-k)+0<n->Tm L (p.data k) (L.length-k) (λ_=>1)
 fB:∀e k,12*(L.length-k)+0<n->Tm L (p.fB e k) (L.length-k) (λ_=>0)
 fC:∀e k,12*(L.length-k)+0<n->Tm L (p.fC e k) (L.length-k) (λ_=>0)
 bW:∀e k,12*(L.length-k)+11<n->Tm L (p.bW e k) (L.length-k) (λ_=>0)
variable {n:Nat}{p:PS}
theorem Rv (h:fi L n p):∀k,12*(L.length-k)+10<n+1->Tm L (xp L p k) (L.length-k) (λ_=>1):=by
 intro k hn;unfold xp
 repeat' (first
  | with_reducible refine Tm.fq (λhk=> ?_) ?_
  | refine Tm.aZ (λhk=> ?_)
  | refine Tm.bd (h.exp _ (by omega)) (λa k1 hk=> ?_)
  | refine Tm.bd (h.fO _ _ (by omega)) (λa k1 hk=> ?_)
  | refine Tm.bd (h.bin _ _ (by omega) (by omega)) (λa k1 hk=> ?_)
  | exact Tm.tail (h.exp _ (by omega)) (λa k1 hk=>by omega)
  | exact Tm.tail (h.fO _ _ (by omega)) (λa k1 hk=>by omega)
  | exact Tm.tail (h.bin _ _ (by omega) (by omega)) (λa k1 hk=>by omega)
  | exact Tm.yes (by omega)
  | exact Tm.fail)
theorem Rw (h:fi L n p):∀e k,12*(L.length-k)+2<n+1->Tm L (xo L p e k) (L.length-k) (λ_=>1):=by
 intro e k hn;unfold xo
 repeat' (first
  | with_reducible refine Tm.fq (λhk=> ?_) ?_
  | refine Tm.aZ (λhk=> ?_)
  | refine Tm.bd (h.exp _ (by omega)) (λa k1 hk=> ?_)
  | refine Tm.bd (h.fO _ _ (by omega)) (λa k1 hk=> ?_)
  | refine Tm.bd (h.pat _ (by omega)) (λa k1 hk=> ?_)
  | exact Tm.tail (h.exp _ (by omega)) (λa k1 hk=>by omega)
  | exact Tm.tail (h.fO _ _ (by omega)) (λa k1 hk=>by omega)
  | exact Tm.tail (h.pat _ (by omega)) (λa k1 hk=>by omega)
  | exact Tm.yes (by omega)
  | exact Tm.fail)
theorem Jr (h:fi L n p):∀lv a k,12*(L.length-k)<n+1->Tm L (tJ L p lv a k) (L.length-k) (λ_=>0):=by
 intro lv a k hn;unfold tJ
 by_cases hi:pD L lv k=true
 . rw[if_pos hi];have h1:=L3 hi;have h2:=L4 hi
   by_cases h3:lv=2\/lv=4
   . rw[if_pos h3];exact Tm.bd (h.bin lv (k+1) (by omega) (by omega)) λb k1 hk=>Tm.yes (by omega)
   . rw[if_neg h3];exact Tm.bd (h.bin (lv+1) (k+1) (by omega) (by omega)) λb k1 hk=>Tm.tail (h.fy lv _ k1 (by omega)) λb k2 hk2=>by omega
 . rw[if_neg hi];exact Tm.yes (by omega)
theorem Rx (h:fi L n p):∀lv k,lv<=7->12*(L.length-k)+(9-lv)<n+1->Tm L (xq L p lv k) (L.length-k) (λ_=>1):=by
 intro lv k hl hn;unfold xq
 by_cases h7:lv=7
 . rw[if_pos h7];exact Tm.tail (h.un k (by omega)) (λa k1 hk=>hk)
 . rw[if_neg h7];exact Tm.bd (h.bin (lv+1) k (by omega) (by omega)) λa k1 hk=>Tm.tail (Jr h lv a k1 (by omega)) λb k2 hk2=>by omega
theorem Bg (h:fi L n p):∀e k,12*(L.length-k)+1<n+1->Tm L (tK L p e k) (L.length-k) (λ_=>0):=by
 intro e k hn;unfold tK
 repeat' (first
  | with_reducible refine Tm.fq (λhk=> ?_) ?_
  | refine Tm.cC (λhb=>L7 hb) (λhk=> ?_) ?_
  | refine Tm.bd (h.fP _ _ (by omega)) (λa k1 hk=> ?_)
  | refine Tm.bd (h.atom _ (by omega)) (λa k1 hk=> ?_)
  | exact Tm.tail (h.fP _ _ (by omega)) (λa k1 hk=>by omega)
  | exact Tm.tail (h.atom _ (by omega)) (λa k1 hk=>by omega)
  | exact Tm.yes (by omega)
  | exact Tm.fail)
theorem Up (h:fi L n p):∀k,12*(L.length-k)+1<n+1->Tm L (LY L p k) (L.length-k) (λ_=>1):=by
 intro k hn;unfold LY
 repeat' (first
  | with_reducible refine Tm.fq (λhk=> ?_) ?_
  | refine Tm.cC (λhb=>L5 hb) (λhk=> ?_) ?_
  | refine Tm.bd (h.un _ (by omega)) (λa k1 hk=> ?_)
  | refine Tm.bd (h.atom _ (by omega)) (λa k1 hk=> ?_)
  | refine Tm.bd (Bg h _ _ (by omega)) (λa k1 hk=> ?_)
  | exact Tm.tail (h.un _ (by omega)) (λa k1 hk=>by omega)
  | exact Tm.tail (h.atom _ (by omega)) (λa k1 hk=>by omega)
  | exact Tm.tail (Bg h _ _ (by omega)) (λa k1 hk=>by omega)
  | exact Tm.yes (by omega)
  | exact Tm.fail)
theorem sQ (h:fi L n p):∀w e k,12*(L.length-k)+0<n+1->Tm L (kf L p w e k) (L.length-k) (λ_=>0):=by
 intro w e k hn;unfold kf
 repeat' (first
  | with_reducible refine Tm.fq (λhk=> ?_) ?_
  | refine Tm.bd (h.exp _ (by omega)) (λa k1 hk=> ?_)
  | refine Tm.bd (h.dQ _ _ _ (by omega)) (λa k1 hk=> ?_)
  | exact Tm.tail (h.exp _ (by omega)) (λa k1 hk=>by omega)
  | exact Tm.tail (h.dQ _ _ _ (by omega)) (λa k1 hk=>by omega)
  | exact Tm.yes (by omega)
  | exact Tm.fail)
theorem L8 (h:fi L n p):∀k,12*(L.length-k)+0<n+1->Tm L (nn L p k) (L.length-k) (λ_=>1):=by
 intro k hn;unfold nn
 repeat' (first
  | with_reducible refine Tm.fq (λhk=> ?_) ?_
  | refine Tm.fh (by decide) (λhk=> ?_) ?_
  | refine Tm.aZ (λhk=> ?_)
  | refine Tm.bd (h.exp _ (by omega)) (λa k1 hk=> ?_)
  | refine Tm.bd (h.lt _ (by omega)) (λa k1 hk=> ?_)
  | refine Tm.bd (sQ h _ _ _ (by omega)) (λa k1 hk=> ?_)
  | exact Tm.tail (h.exp _ (by omega)) (λa k1 hk=>by omega)
  | exact Tm.tail (h.lt _ (by omega)) (λa k1 hk=>by omega)
  | exact Tm.tail (sQ h _ _ _ (by omega)) (λa k1 hk=>by omega)
  | exact Tm.yes (by omega)
  | exact Tm.fail)
theorem Bh (h:fi L n p):∀e k,12*(L.length-k)+1<n+1->Tm L (tL L p e k) (L.length-k) (λ_=>1):=by
 intro e k hn;unfold tL;refine Tm.fq (λhk=>Tm.yes (by omega)) ?_;refine Tm.bd (h.bind _ (by omega)) λd k1 hk=> ?_;cases d with
 | none=>exact Tm.fail
 | some d=>
   have hk:L.length-k1+1<=L.length-k:=hk;have:=@xy L k1 [59];exact Tm.tail (h.ga _ _ (by omega)) λb k2 hk2=>by omega
theorem Uq (h:fi L n p):∀k,12*(L.length-k)+1<n+1->Tm L (LZ L p k) (L.length-k) (λ_=>1):=by
 intro k hn;unfold LZ
 repeat' (first
  | with_reducible refine Tm.fq (λhk=> ?_) ?_
  | refine Tm.aZ (λhk=> ?_)
  | refine Tm.bd (h.exp _ (by omega)) (λa k1 hk=> ?_)
  | refine Tm.bd (Bh h _ _ (by omega)) (λa k1 hk=> ?_)
  | refine Tm.bd (sQ h _ _ _ (by omega)) (λa k1 hk=> ?_)
  | exact Tm.tail (h.exp _ (by omega)) (λa k1 hk=>by omega)
  | exact Tm.tail (Bh h _ _ (by omega)) (λa k1 hk=>by omega)
  | exact Tm.tail (sQ h _ _ _ (by omega)) (λa k1 hk=>by omega)
  | exact Tm.yes (by omega)
  | exact Tm.fail)
theorem Js (h:fi L n p):∀k,12*(L.length-k)+1<n+1->Tm L (zO L p k) (L.length-k) (λ_=>1):=by
 intro k hn;unfold zO
 repeat' (first
  | with_reducible refine Tm.fq (λhk=> ?_) ?_
  | refine Tm.fh (by decide) (λhk=> ?_) ?_
  | refine Tm.cC (λhb=>Ez hb) (λhk=> ?_) ?_
  | refine Tm.bd (h.bw _ (by omega)) (λa k1 hk=> ?_)
  | exact Tm.tail (h.bw _ (by omega)) (λa k1 hk=>by omega)
  | exact Tm.yes (by omega)
  | exact Tm.fail)
theorem Ry (h:fi L n p):∀k,12*(L.length-k)+1<n+1->Tm L (xr L p k) (L.length-k) (λ_=>1):=by
 intro k hn;unfold xr
 repeat' (first
  | with_reducible refine Tm.fq (λhk=> ?_) ?_
  | refine Tm.bd (h.pat _ (by omega)) (λa k1 hk=> ?_)
  | refine Tm.bd (Js h _ (by omega)) (λa k1 hk=> ?_)
  | exact Tm.tail (h.pat _ (by omega)) (λa k1 hk=>by omega)
  | exact Tm.tail (Js h _ (by omega)) (λa k1 hk=>by omega)
  | exact Tm.yes (by omega)
  | exact Tm.fail)
theorem xz (h:fi L n p):∀e k,12*(L.length-k)+0<n+1->Tm L (l4 L p e k) (L.length-k) (λ_=>0):=by
 intro e k hn;unfold l4
 repeat' (first
  | with_reducible refine Tm.fq (λhk=> ?_) ?_
  | refine Tm.bd (h.pat _ (by omega)) (λa k1 hk=> ?_)
  | refine Tm.bd (h.fQ _ _ (by omega)) (λa k1 hk=> ?_)
  | exact Tm.tail (h.pat _ (by omega)) (λa k1 hk=>by omega)
  | exact Tm.tail (h.fQ _ _ (by omega)) (λa k1 hk=>by omega)
  | exact Tm.yes (by omega)
  | exact Tm.fail)
theorem Jt (h:fi L n p):∀k,12*(L.length-k)+0<n+1->Tm L (jX L p k) (L.length-k) (λ_=>1):=by
 intro k hn;unfold jX
 repeat' (first
  | with_reducible refine Tm.fq (λhk=> ?_) ?_
  | refine Tm.fh (by decide) (λhk=> ?_) ?_
  | refine Tm.aZ (λhk=> ?_)
  | refine Tm.bC (by decide) (λhk=> ?_)
  | refine Tm.bd (h.pat _ (by omega)) (λa k1 hk=> ?_)
  | refine Tm.bd (xz h _ _ (by omega)) (λa k1 hk=> ?_)
  | exact Tm.tail (h.pat _ (by omega)) (λa k1 hk=>by omega)
  | exact Tm.tail (xz h _ _ (by omega)) (λa k1 hk=>by omega)
  | exact Tm.yes (by omega)
  | exact Tm.fail)
theorem xA (h:fi L n p):∀e k,12*(L.length-k)+0<n+1->Tm L (l5 L p e k) (L.length-k) (λ_=>0):=by
 intro e k hn;unfold l5
 repeat' (first
  | with_reducible refine Tm.fq (λhk=> ?_) ?_
  | refine Tm.bd (h.dA _ _ (by omega)) (λa k1 hk=> ?_)
  | refine Tm.bd (h.post _ (by omega)) (λa k1 hk=> ?_)
  | exact Tm.tail (h.dA _ _ (by omega)) (λa k1 hk=>by omega)
  | exact Tm.tail (h.post _ (by omega)) (λa k1 hk=>by omega)
  | exact Tm.yes (by omega)
  | exact Tm.fail)
theorem EA (h:fi L n p):∀k,12*(L.length-k)+1<n+1->Tm L (pb L p k) (L.length-k) (λ_=>1):=by
 intro k hn;unfold pb
 repeat' (first
  | with_reducible refine Tm.fq (λhk=> ?_) ?_
  | refine Tm.bd (h.post _ (by omega)) (λa k1 hk=> ?_)
  | refine Tm.bd (xA h _ _ (by omega)) (λa k1 hk=> ?_)
  | exact Tm.tail (h.post _ (by omega)) (λa k1 hk=>by omega)
  | exact Tm.tail (xA h _ _ (by omega)) (λa k1 hk=>by omega)
  | exact Tm.yes (by omega)
  | exact Tm.fail)
theorem Rz (h:fi L n p):∀k,12*(L.length-k)+1<n+1->Tm L (xu L p k) (L.length-k) (λ_=>1):=by
 intro k hn;unfold xu
 repeat' (first
  | with_reducible refine Tm.fq (λhk=> ?_) ?_
  | refine Tm.bd (h.dT _ (by omega)) (λa k1 hk=> ?_)
  | refine Tm.bd (EA h _ (by omega)) (λa k1 hk=> ?_)
  | exact Tm.tail (h.dT _ (by omega)) (λa k1 hk=>by omega)
  | exact Tm.tail (EA h _ (by omega)) (λa k1 hk=>by omega)
  | exact Tm.yes (by omega)
  | exact Tm.fail)
theorem Bi (h:fi L n p):∀e k,12*(L.length-k)+0<n+1->Tm L (oG L p e k) (L.length-k) (λ_=>0):=by
 intro e k hn;unfold oG
 repeat' (first
  | with_reducible refine Tm.fq (λhk=> ?_) ?_
  | refine Tm.bd (h.dT _ (by omega)) (λa k1 hk=> ?_)
  | refine Tm.bd (h.mC _ _ (by omega)) (λa k1 hk=> ?_)
  | exact Tm.tail (h.dT _ (by omega)) (λa k1 hk=>by omega)
  | exact Tm.tail (h.mC _ _ (by omega)) (λa k1 hk=>by omega)
  | exact Tm.yes (by omega)
  | exact Tm.fail)
theorem EB (h:fi L n p):∀k,12*(L.length-k)+0<n+1->Tm L (pc L p k) (L.length-k) (λ_=>1):=by
 intro k hn;unfold pc
 repeat' (first
  | with_reducible refine Tm.fq (λhk=> ?_) ?_
  | refine Tm.fh (by decide) (λhk=> ?_) ?_
  | refine Tm.cC (λhb=>qq hb) (λhk=> ?_) ?_
  | refine Tm.aZ (λhk=> ?_)
  | refine Tm.bd (h.dT _ (by omega)) (λa k1 hk=> ?_)
  | refine Tm.bd (Bi h _ _ (by omega)) (λa k1 hk=> ?_)
  | exact Tm.tail (h.dT _ (by omega)) (λa k1 hk=>by omega)
  | exact Tm.tail (Bi h _ _ (by omega)) (λa k1 hk=>by omega)
  | exact Tm.yes (by omega)
  | exact Tm.fail)
theorem xB (h:fi L n p):∀e k,12*(L.length-k)+0<n+1->Tm L (ka L p e k) (L.length-k) (λ_=>0):=by
 intro e k hn;unfold ka
 repeat' (first
  | with_reducible refine Tm.fq (λhk=> ?_) ?_
  | refine Tm.cC (λhb=>qq hb) (λhk=> ?_) ?_
  | refine Tm.bd (h.cP _ _ (by omega)) (λa k1 hk=> ?_)
  | exact Tm.tail (h.cP _ _ (by omega)) (λa k1 hk=>by omega)
  | exact Tm.yes (by omega)
  | exact Tm.fail)
theorem L9 (h:fi L n p):∀k,12*(L.length-k)+0<n+1->Tm L (np L p k) (L.length-k) (λ_=>1):=by
 intro k hn;unfold np
 repeat' (first
  | with_reducible refine Tm.fq (λhk=> ?_) ?_
  | refine Tm.bd (EB h _ (by omega)) (λa k1 hk=> ?_)
  | refine Tm.bd (xB h _ _ (by omega)) (λa k1 hk=> ?_)
  | exact Tm.tail (EB h _ (by omega)) (λa k1 hk=>by omega)
  | exact Tm.tail (xB h _ _ (by omega)) (λa k1 hk=>by omega)
  | exact Tm.yes (by omega)
  | exact Tm.fail)
theorem RA (h:fi L n p):∀k,12*(L.length-k)+0<n+1->Tm L (xw L p k) (L.length-k) (λ_=>1):=by
 intro k hn;unfold xw
 repeat' (first
  | with_reducible refine Tm.fq (λhk=> ?_) ?_
  | refine Tm.bC (by decide) (λhk=> ?_)
  | refine Tm.bd (h.dT _ (by omega)) (λa k1 hk=> ?_)
  | exact Tm.tail (h.dT _ (by omega)) (λa k1 hk=>by omega)
  | exact Tm.yes (by omega)
  | exact Tm.fail)
theorem Ju (h:fi L n p):∀e k,12*(L.length-k)+0<n+1->Tm L (tM L p e k) (L.length-k) (λ_=>0):=by
 intro e k hn;unfold tM
 repeat' (first
  | with_reducible refine Tm.fq (λhk=> ?_) ?_
  | refine Tm.bd (h.fA _ _ (by omega)) (λa k1 hk=> ?_)
  | refine Tm.bd (h.fn _ (by omega)) (λa k1 hk=> ?_)
  | exact Tm.tail (h.fA _ _ (by omega)) (λa k1 hk=>by omega)
  | exact Tm.tail (h.fn _ (by omega)) (λa k1 hk=>by omega)
  | exact Tm.yes (by omega)
  | exact Tm.fail)
theorem L_ (h:fi L n p):∀k,12*(L.length-k)+0<n+1->Tm L (nq L p k) (L.length-k) (λd=>if Option.isSome d=true then 1 else 0):=by
 intro k hn;unfold nq;refine Tm.fq (λhk=> ?_) (Tm.fq (λhk=> ?_) (Tm.yes (Nat.le_refl _)))
 . refine Tm.bd (h.pat _ (by omega)) λa k1 hk1=>Tm.aZ λhk2=>Tm.bd (h.exp _ (by omega)) λb k2 hk3=>Tm.yes ?_;show L.length-k2+1<=_;omega
 . refine Tm.bd (h.fn _ (by omega)) λa k1 hk1=>Tm.bd (Ju h _ _ (by omega)) λb k2 hk3=>Tm.yes ?_;show L.length-k2+1<=_;omega
theorem Bj (h:fi L n p):∀e k,12*(L.length-k)+1<n+1->Tm L (tN L p e k) (L.length-k) (λ_=>0):=by
 intro e k hn;unfold tN
 repeat' (first
  | with_reducible refine Tm.fq (λhk=> ?_) ?_
  | refine Tm.cC (λhb=>Ez hb) (λhk=> ?_) ?_
  | refine Tm.bd (h.bw _ (by omega)) (λa k1 hk=> ?_)
  | refine Tm.bd (h.mD _ _ (by omega)) (λa k1 hk=> ?_)
  | exact Tm.tail (h.bw _ (by omega)) (λa k1 hk=>by omega)
  | exact Tm.tail (h.mD _ _ (by omega)) (λa k1 hk=>by omega)
  | exact Tm.yes (by omega)
  | exact Tm.fail)
theorem Ur (h:fi L n p):∀k,12*(L.length-k)+0<n+1->Tm L (L0 L p k) (L.length-k) (λ_=>1):=by
 intro k hn;unfold L0
 repeat' (first
  | with_reducible refine Tm.fq (λhk=> ?_) ?_
  | refine Tm.aZ (λhk=> ?_)
  | refine Tm.bC (by decide) (λhk=> ?_)
  | refine Tm.bd (h.exp _ (by omega)) (λa k1 hk=> ?_)
  | refine Tm.bd (h.bw _ (by omega)) (λa k1 hk=> ?_)
  | refine Tm.bd (Bj h _ _ (by omega)) (λa k1 hk=> ?_)
  | exact Tm.tail (h.exp _ (by omega)) (λa k1 hk=>by omega)
  | exact Tm.tail (h.bw _ (by omega)) (λa k1 hk=>by omega)
  | exact Tm.tail (Bj h _ _ (by omega)) (λa k1 hk=>by omega)
  | exact Tm.yes (by omega)
  | exact Tm.fail)
theorem RB (h:fi L n p):∀k,12*(L.length-k)+1<n+1->Tm L (xx L p k) (L.length-k) (λd=>if Option.isSome d=true then 1 else 0):=by
 intro k hn;unfold xx;refine Tm.fq (λhk=> ?_) (Tm.fq (λhk=> ?_) ?_)
 . refine Tm.bd (h.data _ (by omega)) λa k1 hk1=>Tm.yes ?_;show L.length-k1+1<=_;omega
 . refine Tm.bd (h.dY _ (by omega)) λa k1 hk1=>Tm.yes ?_;show L.length-k1+1<=_;omega
 . exact Tm.tail (h.bind _ (by omega)) λa k1 hk1=>hk1
theorem Bk (h:fi L n p):∀e k,12*(L.length-k)+0<n+1->Tm L (nr L p e k) (L.length-k) (λ_=>0):=by
 intro e k hn;unfold nr
 repeat' (first
  | with_reducible refine Tm.fq (λhk=> ?_) ?_
  | refine Tm.bC (by decide) (λhk=> ?_)
  | refine Tm.bd (h.fB _ _ (by omega)) (λa k1 hk=> ?_)
  | exact Tm.tail (h.fB _ _ (by omega)) (λa k1 hk=>by omega)
  | exact Tm.yes (by omega)
  | exact Tm.fail)
theorem EC (h:fi L n p):∀k,12*(L.length-k)+0<n+1->Tm L (pe L p k) (L.length-k) (λ_=>0):=by
 intro k hn;unfold pe
 repeat' (first
  | with_reducible refine Tm.fq (λhk=> ?_) ?_
  | refine Tm.fh (by decide) (λhk=> ?_) ?_
  | refine Tm.aZ (λhk=> ?_)
  | refine Tm.bC (by decide) (λhk=> ?_)
  | refine Tm.bd (Bk h _ _ (by omega)) (λa k1 hk=> ?_)
  | exact Tm.tail (Bk h _ _ (by omega)) (λa k1 hk=>by omega)
  | exact Tm.yes (by omega)
  | exact Tm.fail)
theorem xC (h:fi L n p):∀e k,12*(L.length-k)+0<n+1->Tm L (iu L p e k) (L.length-k) (λ_=>0):=by
 intro e k hn;unfold iu
 repeat' (first
  | with_reducible refine Tm.fq (λhk=> ?_) ?_
  | refine Tm.bd (h.dY _ (by omega)) (λa k1 hk=> ?_)
  | refine Tm.bd (h.fC _ _ (by omega)) (λa k1 hk=> ?_)
  | exact Tm.tail (h.dY _ (by omega)) (λa k1 hk=>by omega)
  | exact Tm.tail (h.fC _ _ (by omega)) (λa k1 hk=>by omega)
  | exact Tm.yes (by omega)
  | exact Tm.fail)
theorem Ma (h:fi L n p):∀k,12*(L.length-k)+0<n+1->Tm L (nu L p k) (L.length-k) (λ_=>1):=by
 intro k hn;unfold nu
 repeat' (first
  | with_reducible refine Tm.fq (λhk=> ?_) ?_
  | refine Tm.aZ (λhk=> ?_)
  | refine Tm.bC (by decide) (λhk=> ?_)
  | refine Tm.bd (h.dY _ (by omega)) (λa k1 hk=> ?_)
  | refine Tm.bd (EC h _ (by omega)) (λa k1 hk=> ?_)
  | refine Tm.bd (xC h _ _ (by omega)) (λa k1 hk=> ?_)
  | exact Tm.tail (h.dY _ (by omega)) (λa k1 hk=>by omega)
  | exact Tm.tail (EC h _ (by omega)) (λa k1 hk=>by omega)
  | exact Tm.tail (xC h _ _ (by omega)) (λa k1 hk=>by omega)
  | exact Tm.yes (by omega)
  | exact Tm.fail)
theorem Mb (h:fi L n p):∀e k,12*(L.length-k)+11<n+1->Tm L (nv L p e k) (L.length-k) (λ_=>0):=by
 intro e k hn;unfold nv
 by_cases hi:(tk L k).k=0
 . rw[if_pos hi];exact Tm.yes (by omega)
 . rw[if_neg hi];refine Tm.bd (h.dec _ (by omega)) λd k1 hk=> ?_;cases d with
   | none=>
     have hk:L.length-k1+0<=L.length-k:=hk;refine Tm.bd (h.exp _ (by omega)) λd k2 hk2=> ?_;have:=@xy L k2 [59];exact Tm.tail (h.bW _ _ (by omega)) λb k3 hk3=>by omega
   | some d=>
     have hk:L.length-k1+1<=L.length-k:=hk;have:=@xy L k1 [59];exact Tm.tail (h.bW _ _ (by omega)) λb k2 hk2=>by omega
theorem Us:∀n,fi L n (ps L n)
 | 0=>by constructor<;>intros<;>omega
 | n+1=>by
   have h:=Us n;exact {
    exp:=Rv h
    fO:=Rw h
    bin:=Rx h
    fy:=Jr h
    un:=Up h
    fP:=Bg h
    atom:=L8 h
    dQ:=sQ h
    lt:=Uq h
    ga:=Bh h
    pat:=Ry h
    bw:=Jt h
    fQ:=xz h
    dT:=Rz h
    dA:=xA h
    post:=L9 h
    mC:=Bi h
    cP:=xB h
    dY:=RA h
    bind:=L_ h
    fA:=Ju h
    fn:=Ur h
    mD:=Bj h
    dec:=RB h
    data:=Ma h
    fB:=Bk h
    fC:=xC h
    bW:=Mb h }
end
section
abbrev bJ:=Nat×Option Int
abbrev RR (α:Type):=Option (α×bJ)
def rb {α β:Type}(x:RR α)(f:α->bJ->RR β):RR β:=match x with
 | none=>none
 | some (a,s)=>f a s
abbrev ry {α:Type}(a:α)(s:bJ):RR α:=some (a,s)
section
variable (L:List Tok)
def cK (w:List UInt8)(s:bJ):Bool:=s.2.isNone&&dN L s.1 w
def aE (s:bJ):bJ:=(s.1+1,s.2)
def nw (s:bJ):bJ:=if s.2.isNone=true then(s.1,some (tk L s.1).at_)else s
def jo (w:List UInt8)(s:bJ):bJ:=if cK L w s=true then aE s else s
def dZ (w:List UInt8)(s:bJ):bJ:=if cK L w s=true then aE s else nw L s
def cw (c:Int)(s:bJ):Bool:=s.2.isNone&&decide ((tk L s.1).k=c)
def rn {α:Type}(w:List UInt8)(s:bJ)(f:bJ->RR α):RR α:=f (dZ L w s)
def rk {α:Type}(c:Int)(s:bJ)(f:List UInt8->bJ->RR α):RR α:=f (if cw L c s=true then(tk L s.1).s else[]) (if cw L c s=true then aE s else nw L s)
abbrev RC:bo:= .mk 0 [] []
structure RP where
 exp:bJ->RR aH
 fO:aH->bJ->RR aH
 bin:Nat->bJ->RR aH
 fy:Nat->aH->bJ->RR aH
 un:bJ->RR aH
 fP:aH->bJ->RR aH
 atom:bJ->RR aH
 dQ:List UInt8->aH->bJ->RR aH
 lt:bJ->RR aH
 ga:List a_->bJ->RR (List a_)
 pat:bJ->RR bh
 bw:bJ->RR bh
 fQ:List bh->bJ->RR (List bh)
 dT:bJ->RR bo
 dA:List bo->bJ->RR (List bo)
 post:bJ->RR bo
 mC:List bo->bJ->RR (List bo)
 cP:bo->bJ->RR bo
 dY:bJ->RR da
 bind:bJ->RR (Option a_)
 fA:List Fn->bJ->RR (List Fn)
 fn:bJ->RR Fn
 mD:List bh->bJ->RR (List bh)
 dec:bJ->RR (Option a_)
 data:bJ->RR Data
 fB:List (List UInt8)->bJ->RR (List (List UInt8))
 fC:List da->bJ->RR (List da)
 bW:List a_->bJ->RR (List a_)
def RP.none:RP:=⟨λ_=> .none,λ_ _=> .none,λ_ _=> .none,λ_ _ _=> .none,λ_=> .none,λ_ _=> .none,λ_=> .none,λ_ _ _=> .none,λ_=> .none,λ_ _=> .none,λ_=> .none,λ_=> .none,λ_ _=> .none,λ_=> .none,λ_ _=> .none,λ_=> .none,λ_ _=> .none,λ_ _=> .none,
 λ_=> .none,λ_=> .none,λ_ _=> .none,λ_=> .none,λ_ _=> .none,λ_=> .none,λ_=> .none,λ_ _=> .none,λ_ _=> .none,λ_ _=> .none⟩
variable (p:RP)
def Bl (e:aH)(s:bJ):RR aH:=if s.2.isSome=true then ry e s else rb (p.pat s) λq s=>rn L [61,62] s λs=>rb (p.exp s) λx s=>if cK L [124] s=true then p.fO (e.kc q x) (aE s)else ry (e.kc q x) s
def Bm (s:bJ):RR aH:=
 if cK L [105,102] s=true then rb (p.exp (aE s)) λa s=>rn L [116,104,101,110] s λs=>rb (p.exp s) λb s=>rn L [101,108,115,101] s λs=>rb (p.exp s) λc s=>ry (.mk 8 0 [] [a,b,c] [] []) s
 else if cK L [99,97,115,101] s=true then rb (p.exp (aE s)) λa s=>rn L [111,102] s λs=>p.fO (.mk 9 0 [] [a] [] []) s
 else if cK L [102,110] s=true then p.fO (.mk 7 0 [] [] [] []) (aE s)
 else if cK L [114,97,105,115,101] s=true then rb (p.exp (aE s)) λa s=>ry (.mk 11 0 [] [a] [] []) s
 else rb (p.bin 0 s) λa s=>if cK L [104,97,110,100,108,101] s=true then p.fO (.mk 12 0 [] [a] [] []) (aE s)else ry a s
def OL (lvl:Nat)(s:bJ):Bool:=s.2.isNone&&pD L lvl s.1
def gp (lvl:Nat)(a:aH)(s:bJ):RR aH:=
 if OL L lvl s=true then(if lvl=2\/lvl=4 then rb (p.bin lvl (aE s)) λb s'=>ry (two (tk L s.1).s a b) s' else rb (p.bin (lvl+1) (aE s)) λb s'=>p.fy lvl (two (tk L s.1).s a b) s')else ry a s
def iV (lvl:Nat)(s:bJ):RR aH:=if lvl=7 then p.un s else rb (p.bin (lvl+1) s) λa s=>gp L p lvl a s
def Jv (s:bJ):Bool:=s.2.isNone&&lP L s.1
def zR (a:aH)(s:bJ):RR aH:=if Jv L s=true then rb (p.atom s) λb s=>p.fP (.mk 6 0 [] [a,b] [] []) s else ry a s
def Xr (s:bJ):Bool:=s.2.isNone&&unOp L s.1
def RD (s:bJ):RR aH:=if Xr L s=true then rb (p.un (aE s)) λa s'=>ry (.mk 15 0 (tk L s.1).s [a] [] []) s' else rb (p.atom s) λa s=>zR L p a s
def ki (w:List UInt8)(e:aH)(s:bJ):RR aH:=if cK L w s=true then rb (p.exp (aE s)) λb s=>p.dQ w (e.add b) s else ry e s
def sR (s:bJ):RR aH:=
 if cw L 1 s=true then ry (.mk 1 (tk L s.1).n [] [] [] []) (aE s)
 else if cw L 2 s=true then ry (.mk 2 0 (tk L s.1).s [] [] []) (aE s)
 else if cw L 3 s=true then ry (.mk 3 0 (tk L s.1).s [] [] []) (aE s)
 else if cw L 4 s=true then ry (.mk 4 0 (tk L s.1).s [] [] []) (aE s)
 else if cK L [108,101,116] s=true then p.lt (aE s)
 else rn L [40] s λs=>if s.2.isSome=true then ry (.mk 5 0 [] [] [] []) s else if cK L [41] s=true then ry (.mk 5 0 [] [] [] []) (aE s)else rb (p.exp s) λa s=>
  if cK L [44] s=true then rb (ki L p [44] (.mk 5 0 [] [a] [] []) s) λe s=>rn L [41] s λs=>ry e s
  else if cK L [59] s=true then rb (ki L p [59] (.mk 13 0 [] [a] [] []) s) λe s=>rn L [41] s λs=>ry e s
  else rn L [41] s λs=>ry a s
def Bn (ds:List a_)(s:bJ):RR (List a_):=if s.2.isSome=true then ry ds s else if cK L [105,110] s=true then ry ds (aE s)else rb (p.bind s) λd s=>p.ga (ds++[d.getD kU]) (jo L [59] (if d.isSome=true then s else nw L s))
def RE (s:bJ):RR aH:=rb (Bn L p [] s) λds s=>rb (p.exp s) λa s=>
 if cK L [59] s=true then rb (ki L p [59] (.mk 13 0 [] [a] [] []) s) λa s=>rn L [101,110,100] s λs=>ry (.mk 10 0 [] [a] [] ds) s
 else rn L [101,110,100] s λs=>ry (.mk 10 0 [] [a] [] ds) s
def pf (s:bJ):Bool:=s.2.isNone&&kT L s.1
def uL (s:bJ):RR bh:=if cw L 4 s=true then(if pf L (aE s)=true then rb (p.bw (aE s)) λb s'=>ry (.mk 6 0 (tk L s.1).s [b]) s' else ry (.mk 6 0 (tk L s.1).s []) (aE s))else p.bw s
def Bo (s:bJ):RR bh:=rb (uL L p s) λa s=>if cK L [58,58] s=true then rb (p.pat (aE s)) λb s=>ry (uK a b) s else ry a s
def pg (l:List bh)(s:bJ):RR (List bh):=if cK L [44] s=true then rb (p.pat (aE s)) λb s=>p.fQ (l++[b]) s else ry l s
def my (s:bJ):RR bh:=
 if cw L 1 s=true then ry (.mk 3 (tk L s.1).n [] []) (aE s)
 else if cw L 2 s=true then ry (.mk 4 0 (tk L s.1).s []) (aE s)
 else if cw L 3 s=true then ry (.mk 2 0 (tk L s.1).s []) (aE s)
 else if cw L 4 s=true then ry (.mk 6 0 (tk L s.1).s []) (aE s)
 else if cK L [95] s=true then ry (.mk 1 0 [] []) (aE s)
 else if cK L [126] s=true then rk L 1 (aE s) λ_ s'=>ry (.mk 3 (IntKind.i64.wrap (-(tk L (s.1+1)).n)) [] []) s'
 else rn L [40] s λs=>if s.2.isSome=true then ry (.mk 5 0 [] []) s else if cK L [41] s=true then ry (.mk 5 0 [] []) (aE s)else rb (p.pat s) λa s=>
  if cK L [44] s=true then rb (pg L p [a] s) λl s=>rn L [41] s λs=>ry (.mk 5 0 [] l) s else rn L [41] s λs=>ry a s
def kV (l:List bo)(s:bJ):RR (List bo):=if cK L [42] s=true then rb (p.post (aE s)) λb s=>p.dA (l++[b]) s else ry l s
def kW (s:bJ):RR bo:=rb (p.post s) λa s=>if cK L [42] s=true then rb (kV L p [a] s) λl s=>ry (.mk 4 [] l) s else ry a s
def Bp (s:bJ):RR bo:=rb (kW L p s) λa s=>if cK L [45,62] s=true then rb (p.dT (aE s)) λb s=>ry (.mk 3 [] [a,b]) s else ry a s
def tO (l:List bo)(s:bJ):RR (List bo):=if cK L [44] s=true then rb (p.dT (aE s)) λb s=>p.mC (l++[b]) s else ry l s
def kj (s:bJ):Bool:=s.2.isNone&&iU L s.1
def jq (a:bo)(s:bJ):RR bo:=if kj L s=true then p.cP (.mk 2 (tk L s.1).s [a]) (aE s)else ry a s
def oH (s:bJ):RR bo:=
 if(tk L s.1).k=5 then rk L 5 s λt s=>ry (.mk 1 t []) s
 else if kj L s=true then ry (.mk 2 (tk L s.1).s []) (aE s)
 else rn L [40] s λs=>if s.2.isSome=true then ry RC s else rb (p.dT s) λa s=>
  if cK L [44] s=true then rb (tO L p [a] s) λl s=>rn L [41] s λs=>ry (.mk 2 (if kj L s=true then(tk L s.1).s else[]) l) (if kj L s=true then aE s else nw L s)
  else rn L [41] s λs=>ry a s
def sS (s:bJ):RR bo:=rb (oH L p s) λa s=>jq L p a s
def Bq (s:bJ):RR da:=rk L 4 s λt s=>if cK L [111,102] s=true then rb (p.dT (aE s)) λa s=>ry ⟨t,[a]⟩ s else ry ⟨t,[]⟩ s
def zS (l:List Fn)(s:bJ):RR (List Fn):=if cK L [97,110,100] s=true then rb (p.fn (aE s)) λf s=>p.fA (l++[f]) s else ry l s
def sT (s:bJ):RR (Option a_):=
 if cK L [118,97,108] s=true then rb (p.pat (aE s)) λa s=>rn L [61] s λs=>rb (p.exp s) λe s=>ry (some (.mk 1 a e [] gO jW)) s
 else if cK L [102,117,110] s=true then rb (p.fn (aE s)) λf s=>rb (zS L p [f] s) λl s=>ry (some (.mk 2 jV ke l gO jW)) s
 else ry none s
def xD (l:List bh)(s:bJ):RR (List bh):=if pf L s=true then rb (p.bw s) λq s=>p.mD (l++[q]) s else ry l s
def RF (s:bJ):RR Fn:=rk L 3 s λt s=>rb (p.bw s) λq s=>rb (xD L p [q] s) λl s=>rn L [61] s λs=>rb (p.exp s) λe s=>ry (.mk t l e) s
def ph (l:List (List UInt8))(s:bJ):RR (List (List UInt8)):=if cK L [44] s=true then rk L 5 (aE s) λt s=>p.fB (l++[t]) s else ry l s
def kX (l:List da)(s:bJ):RR (List da):=if cK L [124] s=true then rb (p.dY (aE s)) λc s=>p.fC (l++[c]) s else ry l s
def uM (s:bJ):RR (List (List UInt8)):=
 if(tk L s.1).k=5 then rk L 5 s λt s=>ry [t] s
 else if cK L [40] s=true then rk L 5 (aE s) λt s=>rb (ph L p [t] s) λl s=>rn L [41] s λs=>ry l s
 else ry [] s
def sU (s:bJ):RR Data:=rb (uM L p s) λvs s=>rk L 3 s λt s=>rn L [61] s λs=>rb (p.dY s) λc s=>rb (kX L p [c] s) λl s=>ry ⟨vs,t,l⟩ s
def Br (s:bJ):RR (Option a_):=
 if cK L [100,97,116,97,116,121,112,101] s=true then rb (p.data (aE s)) λx s=>ry (some (.mk 3 jV ke [] x jW)) s
 else if cK L [101,120,99,101,112,116,105,111,110] s=true then rb (p.dY (aE s)) λc s=>ry (some (.mk 4 jV ke [] gO c)) s
 else p.bind s
def sV (ds:List a_)(s:bJ):RR (List a_):=
 if s.2.isSome=true then ry ds s else if(tk L s.1).k=0 then ry ds s else rb (p.dec s) λd s=>match d with
  | some d=>p.bW (ds++[d]) (jo L [59] s)
  | none=>rb (p.exp s) λe s=>p.bW (ds++[zP e]) (jo L [59] s)
def RG:RP where
 exp:=Bm L p
 fO:=Bl L p
 bin:=iV L p
 fy:=gp L p
 un:=RD L p
 fP:=zR L p
 atom:=sR L p
 dQ:=ki L p
 lt:=RE L p
 ga:=Bn L p
 pat:=Bo L p
 bw:=my L p
 fQ:=pg L p
 dT:=Bp L p
 dA:=kV L p
 post:=sS L p
 mC:=tO L p
 cP:=jq L p
 dY:=Bq L p
 bind:=sT L p
 fA:=zS L p
 fn:=RF L p
 mD:=xD L p
 dec:=Br L p
 data:=sU L p
 fB:=ph L p
 fC:=kX L p
 bW:=sV L p
def rp:Nat->RP
 | 0=>RP.none
 | n+1=>RG L (rp n)
end
variable {L:List Tok}{α β:Type}{t:Int}
def Jk (t:Int)(y:RR α):Prop:=∃a k,y=some (a,(k,some t))
theorem Jk.rb {x:RR α}{g:α->bJ->RR β}(h:Jk t x)(hg:∀a k,Jk t (g a (k,some t))):Jk t (rb x g):=by
 obtain⟨a,k,rfl⟩:=h;exact hg a k
theorem Jk.ry {a:α}{k:Nat}:Jk t (ry a (k,some t)):=⟨a,k,rfl⟩
theorem Jk.rn {w:List UInt8}{k:Nat}{g:bJ->RR β}(hg:Jk t (g (k,some t))):Jk t (rn L w (k,some t) g):=hg
theorem Jk.rk {c:Int}{k:Nat}{g:List UInt8->bJ->RR β}(hg:Jk t (g [] (k,some t))):Jk t (rk L c (k,some t) g):=hg
theorem Jk.is {w:List UInt8}{k:Nat}{x y:RR β}(h:Jk t y):Jk t (if cK L w (k,some t)=true then x else y):=h
theorem Jk.kd {c:Int}{k:Nat}{x y:RR β}(h:Jk t y):Jk t (if cw L c (k,some t)=true then x else y):=h
theorem Jk.op {lv:Nat}{k:Nat}{x y:RR β}(h:Jk t y):Jk t (if OL L lv (k,some t)=true then x else y):=h
theorem Jk.lP {k:Nat}{x y:RR β}(h:Jk t y):Jk t (if Jv L (k,some t)=true then x else y):=h
theorem Jk.kT {k:Nat}{x y:RR β}(h:Jk t y):Jk t (if pf L (k,some t)=true then x else y):=h
theorem Jk.un {k:Nat}{x y:RR β}(h:Jk t y):Jk t (if Xr L (k,some t)=true then x else y):=h
theorem Jk.Xs {k:Nat}{x y:RR β}(h:Jk t y):Jk t (if kj L (k,some t)=true then x else y):=h
theorem Jk.bad {k:Nat}{x y:RR β}(h:Jk t x):Jk t (if(((k,some t):bJ).2.isSome)=true then x else y):=h
theorem Jk.ite {c:Prop}[Decidable c]{x y:RR β}(h:Jk t x)(h':Jk t y):Jk t (if c then x else y):=by
 by_cases hc:c
 . rw[if_pos hc];exact h
 . rw[if_neg hc];exact h'
structure cm (n:Nat)(p:RP):Prop where
 exp:∀  k t,10<n->Jk t (p.exp  (k,some t))
 fO:∀e k t,0<n->Jk t (p.fO e (k,some t))
 bin:∀lv k t,lv<=7->9-lv<n->Jk t (p.bin lv (k,some t))
 fy:∀lv a k t,0<n->Jk t (p.fy lv a (k,some t))
 un:∀  k t,1<n->Jk t (p.un  (k,some t))
 fP:∀e k t,0<n->Jk t (p.fP e (k,some t))
 atom:∀  k t,0<n->Jk t (p.atom  (k,some t))
 dQ:∀w e k t,0<n->Jk t (p.dQ w e (k,some t))
 lt:∀  k t,11<n->Jk t (p.lt  (k,some t))
 ga:∀e k t,0<n->Jk t (p.ga e (k,some t))
 pat:∀  k t,1<n->Jk t (p.pat  (k,some t))
 bw:∀  k t,0<n->Jk t (p.bw  (k,some t))
 fQ:∀e k t,0<n->Jk t (p.fQ e (k,some t))
 dT:∀  k t,1<n->Jk t (p.dT  (k,some t))
 dA:∀e k t,0<n->Jk t (p.dA e (k,some t))
 post:∀  k t,0<n->Jk t (p.post  (k,some t))
 mC:∀e k t,0<n->Jk t (p.mC e (k,some t))
 cP:∀e k t,0<n->Jk t (p.cP e (k,some t))
 dY:∀  k t,0<n->Jk t (p.dY  (k,some t))
 bind:∀  k t,0<n->Jk t (p.bind  (k,some t))
 fA:∀e k t,0<n->Jk t (p.fA e (k,some t))
 fn:∀  k t,11<n->Jk t (p.fn  (k,some t))
 mD:∀e k t,0<n->Jk t (p.mD e (k,some t))
 dec:∀  k t,1<n->Jk t (p.dec  (k,some t))
 data:∀  k t,1<n->Jk t (p.data  (k,some t))
 fB:∀e k t,0<n->Jk t (p.fB e (k,some t))
 fC:∀e k t,0<n->Jk t (p.fC e (k,some t))
 bW:∀e k t,0<n->Jk t (p.bW e (k,some t))
variable {n:Nat}{p:RP}
theorem RH (h:cm n p):∀  k t,10<n+1->Jk t (Bm L p  (k,some t)):=by
 intro  k t hn;unfold Bm
 repeat' (first
 | exact Jk.ry
 | with_reducible refine Jk.is ?_
 | refine Jk.rn ?_
 | with_reducible exact h.exp _ _ (by omega)
 | with_reducible refine Jk.rb (h.exp _ _ (by omega)) (λa k1=> ?_)
 | with_reducible exact h.fO _ _ _ (by omega)
 | with_reducible refine Jk.rb (h.fO _ _ _ (by omega)) (λa k1=> ?_)
 | with_reducible exact h.bin _ _ _ (by omega) (by omega)
 | with_reducible refine Jk.rb (h.bin _ _ _ (by omega) (by omega)) (λa k1=> ?_))
theorem RI (h:cm n p):∀e k t,0<n+1->Jk t (Bl L p e (k,some t)):=by
 intro e k t hn;unfold Bl
 repeat' (first
 | exact Jk.ry
 | with_reducible refine Jk.is ?_
 | with_reducible refine Jk.bad ?_
 | refine Jk.rn ?_
 | with_reducible exact h.exp _ _ (by omega)
 | with_reducible refine Jk.rb (h.exp _ _ (by omega)) (λa k1=> ?_)
 | with_reducible exact h.fO _ _ _ (by omega)
 | with_reducible refine Jk.rb (h.fO _ _ _ (by omega)) (λa k1=> ?_)
 | with_reducible exact h.pat _ _ (by omega)
 | with_reducible refine Jk.rb (h.pat _ _ (by omega)) (λa k1=> ?_))
theorem xE (h:cm n p):∀lv a k t,0<n+1->Jk t (gp L p lv a (k,some t)):=by
 intro lv a k t hn;unfold gp
 repeat' (first
 | exact Jk.ry
 | with_reducible refine Jk.op ?_
 | with_reducible exact h.bin _ _ _ (by omega) (by omega)
 | with_reducible refine Jk.rb (h.bin _ _ _ (by omega) (by omega)) (λa k1=> ?_)
 | with_reducible exact h.fy _ _ _ _ (by omega)
 | with_reducible refine Jk.rb (h.fy _ _ _ _ (by omega)) (λa k1=> ?_)
 | with_reducible refine Jk.ite ?_ ?_)
theorem RJ (h:cm n p):∀lv k t,lv<=7->9-lv<n+1->Jk t (iV L p lv (k,some t)):=by
 intro lv k t hl hn;unfold iV
 by_cases h7:lv=7
 . rw[if_pos h7];exact h.un _ _ (by omega)
 . rw[if_neg h7];exact Jk.rb (h.bin (lv+1) k t (by omega) (by omega)) λa k1=>xE h _ _ _ _ (by omega)
theorem sW (h:cm n p):∀e k t,0<n+1->Jk t (zR L p e (k,some t)):=by
 intro e k t hn;unfold zR
 repeat' (first
 | exact Jk.ry
 | with_reducible refine Jk.lP ?_
 | with_reducible exact h.fP _ _ _ (by omega)
 | with_reducible refine Jk.rb (h.fP _ _ _ (by omega)) (λa k1=> ?_)
 | with_reducible exact h.atom _ _ (by omega)
 | with_reducible refine Jk.rb (h.atom _ _ (by omega)) (λa k1=> ?_))
theorem Ut (h:cm n p):∀  k t,1<n+1->Jk t (RD L p  (k,some t)):=by
 intro  k t hn;unfold RD
 repeat' (first
 | exact Jk.ry
 | with_reducible refine Jk.un ?_
 | with_reducible exact h.un _ _ (by omega)
 | with_reducible refine Jk.rb (h.un _ _ (by omega)) (λa k1=> ?_)
 | with_reducible exact h.atom _ _ (by omega)
 | with_reducible refine Jk.rb (h.atom _ _ (by omega)) (λa k1=> ?_)
 | with_reducible exact sW h _ _ _ (by omega)
 | with_reducible refine Jk.rb (sW h _ _ _ (by omega)) (λa k1=> ?_))
theorem j0 (h:cm n p):∀w e k t,0<n+1->Jk t (ki L p w e (k,some t)):=by
 intro w e k t hn;unfold ki
 repeat' (first
 | exact Jk.ry
 | with_reducible refine Jk.is ?_
 | with_reducible exact h.exp _ _ (by omega)
 | with_reducible refine Jk.rb (h.exp _ _ (by omega)) (λa k1=> ?_)
 | with_reducible exact h.dQ _ _ _ _ (by omega)
 | with_reducible refine Jk.rb (h.dQ _ _ _ _ (by omega)) (λa k1=> ?_))
theorem Mc (h:cm n p):∀  k t,0<n+1->Jk t (sR L p  (k,some t)):=by
 intro  k t hn;unfold sR
 repeat' (first
 | exact Jk.ry
 | with_reducible refine Jk.is ?_
 | with_reducible refine Jk.kd ?_
 | with_reducible refine Jk.bad ?_
 | refine Jk.rn ?_
 | with_reducible exact h.exp _ _ (by omega)
 | with_reducible refine Jk.rb (h.exp _ _ (by omega)) (λa k1=> ?_)
 | with_reducible exact h.lt _ _ (by omega)
 | with_reducible refine Jk.rb (h.lt _ _ (by omega)) (λa k1=> ?_)
 | with_reducible exact j0 h _ _ _ _ (by omega)
 | with_reducible refine Jk.rb (j0 h _ _ _ _ (by omega)) (λa k1=> ?_))
theorem sX (h:cm n p):∀e k t,0<n+1->Jk t (Bn L p e (k,some t)):=by
 intro e k t hn;exact Jk.ry
theorem Uu (h:cm n p):∀  k t,11<n+1->Jk t (RE L p  (k,some t)):=by
 intro  k t hn;unfold RE
 repeat' (first
 | exact Jk.ry
 | with_reducible refine Jk.is ?_
 | refine Jk.rn ?_
 | with_reducible exact h.exp _ _ (by omega)
 | with_reducible refine Jk.rb (h.exp _ _ (by omega)) (λa k1=> ?_)
 | with_reducible exact sX h _ _ _ (by omega)
 | with_reducible refine Jk.rb (sX h _ _ _ (by omega)) (λa k1=> ?_)
 | with_reducible exact j0 h _ _ _ _ (by omega)
 | with_reducible refine Jk.rb (j0 h _ _ _ _ (by omega)) (λa k1=> ?_))
theorem qv (h:cm n p):∀k t,1<n+1->Jk t (uL L p (k,some t)):=by
 intro k t hn;unfold uL
 repeat' (first
 | exact Jk.ry
 | with_reducible refine Jk.kd ?_
 | with_reducible refine Jk.kT ?_
 | with_reducible exact h.bw _ _ (by omega)
 | with_reducible refine Jk.rb (h.bw _ _ (by omega)) (λa k1=> ?_))
theorem RK (h:cm n p):∀  k t,1<n+1->Jk t (Bo L p  (k,some t)):=by
 intro  k t hn;unfold Bo
 repeat' (first
 | exact Jk.ry
 | with_reducible refine Jk.is ?_
 | with_reducible exact h.pat _ _ (by omega)
 | with_reducible refine Jk.rb (h.pat _ _ (by omega)) (λa k1=> ?_)
 | with_reducible exact qv h _ _ (by omega)
 | with_reducible refine Jk.rb (qv h _ _ (by omega)) (λa k1=> ?_))
theorem ny (h:cm n p):∀e k t,0<n+1->Jk t (pg L p e (k,some t)):=by
 intro e k t hn;unfold pg
 repeat' (first
 | exact Jk.ry
 | with_reducible refine Jk.is ?_
 | with_reducible exact h.pat _ _ (by omega)
 | with_reducible refine Jk.rb (h.pat _ _ (by omega)) (λa k1=> ?_)
 | with_reducible exact h.fQ _ _ _ (by omega)
 | with_reducible refine Jk.rb (h.fQ _ _ _ (by omega)) (λa k1=> ?_))
theorem Jw (h:cm n p):∀  k t,0<n+1->Jk t (my L p  (k,some t)):=by
 intro  k t hn;unfold my
 repeat' (first
 | exact Jk.ry
 | with_reducible refine Jk.is ?_
 | with_reducible refine Jk.kd ?_
 | with_reducible refine Jk.bad ?_
 | refine Jk.rn ?_
 | refine Jk.rk ?_
 | with_reducible exact h.pat _ _ (by omega)
 | with_reducible refine Jk.rb (h.pat _ _ (by omega)) (λa k1=> ?_)
 | with_reducible exact ny h _ _ _ (by omega)
 | with_reducible refine Jk.rb (ny h _ _ _ (by omega)) (λa k1=> ?_))
theorem kY (h:cm n p):∀e k t,0<n+1->Jk t (kV L p e (k,some t)):=by
 intro e k t hn;unfold kV
 repeat' (first
 | exact Jk.ry
 | with_reducible refine Jk.is ?_
 | with_reducible exact h.dA _ _ _ (by omega)
 | with_reducible refine Jk.rb (h.dA _ _ _ (by omega)) (λa k1=> ?_)
 | with_reducible exact h.post _ _ (by omega)
 | with_reducible refine Jk.rb (h.post _ _ (by omega)) (λa k1=> ?_))
theorem nA (h:cm n p):∀k t,1<n+1->Jk t (kW L p (k,some t)):=by
 intro k t hn;unfold kW
 repeat' (first
 | exact Jk.ry
 | with_reducible refine Jk.is ?_
 | with_reducible exact h.post _ _ (by omega)
 | with_reducible refine Jk.rb (h.post _ _ (by omega)) (λa k1=> ?_)
 | with_reducible exact kY h _ _ _ (by omega)
 | with_reducible refine Jk.rb (kY h _ _ _ (by omega)) (λa k1=> ?_))
theorem RL (h:cm n p):∀  k t,1<n+1->Jk t (Bp L p  (k,some t)):=by
 intro  k t hn;unfold Bp
 repeat' (first
 | exact Jk.ry
 | with_reducible refine Jk.is ?_
 | with_reducible exact h.dT _ _ (by omega)
 | with_reducible refine Jk.rb (h.dT _ _ (by omega)) (λa k1=> ?_)
 | with_reducible exact nA h _ _ (by omega)
 | with_reducible refine Jk.rb (nA h _ _ (by omega)) (λa k1=> ?_))
theorem Bs (h:cm n p):∀e k t,0<n+1->Jk t (tO L p e (k,some t)):=by
 intro e k t hn;unfold tO
 repeat' (first
 | exact Jk.ry
 | with_reducible refine Jk.is ?_
 | with_reducible exact h.dT _ _ (by omega)
 | with_reducible refine Jk.rb (h.dT _ _ (by omega)) (λa k1=> ?_)
 | with_reducible exact h.mC _ _ _ (by omega)
 | with_reducible refine Jk.rb (h.mC _ _ _ (by omega)) (λa k1=> ?_))
theorem nB (h:cm n p):∀k t,0<n+1->Jk t (oH L p (k,some t)):=by
 intro k t hn;unfold oH
 repeat' (first
 | exact Jk.ry
 | with_reducible refine Jk.is ?_
 | with_reducible refine Jk.Xs ?_
 | with_reducible refine Jk.bad ?_
 | refine Jk.rn ?_
 | refine Jk.rk ?_
 | with_reducible exact h.dT _ _ (by omega)
 | with_reducible refine Jk.rb (h.dT _ _ (by omega)) (λa k1=> ?_)
 | with_reducible exact Bs h _ _ _ (by omega)
 | with_reducible refine Jk.rb (Bs h _ _ _ (by omega)) (λa k1=> ?_)
 | with_reducible refine Jk.ite ?_ ?_)
theorem nC (h:cm n p):∀e k t,0<n+1->Jk t (jq L p e (k,some t)):=by
 intro e k t hn;unfold jq
 repeat' (first
 | exact Jk.ry
 | with_reducible refine Jk.Xs ?_
 | with_reducible exact h.cP _ _ _ (by omega)
 | with_reducible refine Jk.rb (h.cP _ _ _ (by omega)) (λa k1=> ?_))
theorem Md (h:cm n p):∀  k t,0<n+1->Jk t (sS L p  (k,some t)):=by
 intro  k t hn;unfold sS
 repeat' (first
 | exact Jk.ry
 | with_reducible exact nB h _ _ (by omega)
 | with_reducible refine Jk.rb (nB h _ _ (by omega)) (λa k1=> ?_)
 | with_reducible exact nC h _ _ _ (by omega)
 | with_reducible refine Jk.rb (nC h _ _ _ (by omega)) (λa k1=> ?_))
theorem RM (h:cm n p):∀  k t,0<n+1->Jk t (Bq L p  (k,some t)):=by
 intro  k t hn;unfold Bq
 repeat' (first
 | exact Jk.ry
 | with_reducible refine Jk.is ?_
 | refine Jk.rk ?_
 | with_reducible exact h.dT _ _ (by omega)
 | with_reducible refine Jk.rb (h.dT _ _ (by omega)) (λa k1=> ?_))
theorem sY (h:cm n p):∀e k t,0<n+1->Jk t (zS L p e (k,some t)):=by
 intro e k t hn;unfold zS
 repeat' (first
 | exact Jk.ry
 | with_reducible refine Jk.is ?_
 | with_reducible exact h.fA _ _ _ (by omega)
 | with_reducible refine Jk.rb (h.fA _ _ _ (by omega)) (λa k1=> ?_)
 | with_reducible exact h.fn _ _ (by omega)
 | with_reducible refine Jk.rb (h.fn _ _ (by omega)) (λa k1=> ?_))
theorem Me (h:cm n p):∀  k t,0<n+1->Jk t (sT L p  (k,some t)):=by
 intro  k t hn;unfold sT
 repeat' (first
 | exact Jk.ry
 | with_reducible refine Jk.is ?_
 | refine Jk.rn ?_
 | with_reducible exact h.exp _ _ (by omega)
 | with_reducible refine Jk.rb (h.exp _ _ (by omega)) (λa k1=> ?_)
 | with_reducible exact h.pat _ _ (by omega)
 | with_reducible refine Jk.rb (h.pat _ _ (by omega)) (λa k1=> ?_)
 | with_reducible exact h.fn _ _ (by omega)
 | with_reducible refine Jk.rb (h.fn _ _ (by omega)) (λa k1=> ?_)
 | with_reducible exact sY h _ _ _ (by omega)
 | with_reducible refine Jk.rb (sY h _ _ _ (by omega)) (λa k1=> ?_))
theorem sZ (h:cm n p):∀e k t,0<n+1->Jk t (xD L p e (k,some t)):=by
 intro e k t hn;unfold xD
 repeat' (first
 | exact Jk.ry
 | with_reducible refine Jk.kT ?_
 | with_reducible exact h.bw _ _ (by omega)
 | with_reducible refine Jk.rb (h.bw _ _ (by omega)) (λa k1=> ?_)
 | with_reducible exact h.mD _ _ _ (by omega)
 | with_reducible refine Jk.rb (h.mD _ _ _ (by omega)) (λa k1=> ?_))
theorem Uv (h:cm n p):∀  k t,11<n+1->Jk t (RF L p  (k,some t)):=by
 intro  k t hn;unfold RF
 repeat' (first
 | exact Jk.ry
 | refine Jk.rn ?_
 | refine Jk.rk ?_
 | with_reducible exact h.exp _ _ (by omega)
 | with_reducible refine Jk.rb (h.exp _ _ (by omega)) (λa k1=> ?_)
 | with_reducible exact h.bw _ _ (by omega)
 | with_reducible refine Jk.rb (h.bw _ _ (by omega)) (λa k1=> ?_)
 | with_reducible exact sZ h _ _ _ (by omega)
 | with_reducible refine Jk.rb (sZ h _ _ _ (by omega)) (λa k1=> ?_))
theorem RN (h:cm n p):∀  k t,1<n+1->Jk t (Br L p  (k,some t)):=by
 intro  k t hn;unfold Br
 repeat' (first
 | exact Jk.ry
 | with_reducible refine Jk.is ?_
 | with_reducible exact h.dY _ _ (by omega)
 | with_reducible refine Jk.rb (h.dY _ _ (by omega)) (λa k1=> ?_)
 | with_reducible exact h.bind _ _ (by omega)
 | with_reducible refine Jk.rb (h.bind _ _ (by omega)) (λa k1=> ?_)
 | with_reducible exact h.data _ _ (by omega)
 | with_reducible refine Jk.rb (h.data _ _ (by omega)) (λa k1=> ?_))
theorem xF (h:cm n p):∀e k t,0<n+1->Jk t (ph L p e (k,some t)):=by
 intro e k t hn;unfold ph
 repeat' (first
 | exact Jk.ry
 | with_reducible refine Jk.is ?_
 | refine Jk.rk ?_
 | with_reducible exact h.fB _ _ _ (by omega)
 | with_reducible refine Jk.rb (h.fB _ _ _ (by omega)) (λa k1=> ?_))
theorem qw (h:cm n p):∀k t,0<n+1->Jk t (uM L p (k,some t)):=by
 intro k t hn;unfold uM
 repeat' (first
 | exact Jk.ry
 | with_reducible refine Jk.is ?_
 | refine Jk.rn ?_
 | refine Jk.rk ?_
 | with_reducible exact xF h _ _ _ (by omega)
 | with_reducible refine Jk.rb (xF h _ _ _ (by omega)) (λa k1=> ?_)
 | with_reducible refine Jk.ite ?_ ?_)
theorem nD (h:cm n p):∀e k t,0<n+1->Jk t (kX L p e (k,some t)):=by
 intro e k t hn;unfold kX
 repeat' (first
 | exact Jk.ry
 | with_reducible refine Jk.is ?_
 | with_reducible exact h.dY _ _ (by omega)
 | with_reducible refine Jk.rb (h.dY _ _ (by omega)) (λa k1=> ?_)
 | with_reducible exact h.fC _ _ _ (by omega)
 | with_reducible refine Jk.rb (h.fC _ _ _ (by omega)) (λa k1=> ?_))
theorem Mf (h:cm n p):∀  k t,1<n+1->Jk t (sU L p  (k,some t)):=by
 intro  k t hn;unfold sU
 repeat' (first
 | exact Jk.ry
 | refine Jk.rn ?_
 | refine Jk.rk ?_
 | with_reducible exact h.dY _ _ (by omega)
 | with_reducible refine Jk.rb (h.dY _ _ (by omega)) (λa k1=> ?_)
 | with_reducible exact qw h _ _ (by omega)
 | with_reducible refine Jk.rb (qw h _ _ (by omega)) (λa k1=> ?_)
 | with_reducible exact nD h _ _ _ (by omega)
 | with_reducible refine Jk.rb (nD h _ _ _ (by omega)) (λa k1=> ?_))
theorem Mg (h:cm n p):∀e k t,0<n+1->Jk t (sV L p e (k,some t)):=by
 intro e k t hn;unfold sV
 repeat' (first
 | exact Jk.ry
 | with_reducible refine Jk.bad ?_
 | with_reducible exact h.exp _ _ (by omega)
 | with_reducible refine Jk.rb (h.exp _ _ (by omega)) (λa k1=> ?_)
 | with_reducible exact h.dec _ _ (by omega)
 | with_reducible refine Jk.rb (h.dec _ _ (by omega)) (λa k1=> ?_)
 | with_reducible exact h.bW _ _ _ (by omega)
 | with_reducible refine Jk.rb (h.bW _ _ _ (by omega)) (λa k1=> ?_)
 | with_reducible refine Jk.ite ?_ ?_)
theorem Uw:∀n,cm n (rp L n)
 | 0=>by constructor<;>intros<;>omega
 | n+1=>by
   have h:=Uw n;exact {
    exp:=RH (L:=L) h
    fO:=RI (L:=L) h
    bin:=RJ (L:=L) h
    fy:=xE (L:=L) h
    un:=Ut (L:=L) h
    fP:=sW (L:=L) h
    atom:=Mc (L:=L) h
    dQ:=j0 (L:=L) h
    lt:=Uu (L:=L) h
    ga:=sX (L:=L) h
    pat:=RK (L:=L) h
    bw:=Jw (L:=L) h
    fQ:=ny (L:=L) h
    dT:=RL (L:=L) h
    dA:=kY (L:=L) h
    post:=Md (L:=L) h
    mC:=Bs (L:=L) h
    cP:=nC (L:=L) h
    dY:=RM (L:=L) h
    bind:=Me (L:=L) h
    fA:=sY (L:=L) h
    fn:=Uv (L:=L) h
    mD:=sZ (L:=L) h
    dec:=RN (L:=L) h
    data:=Mf (L:=L) h
    fB:=xF (L:=L) h
    fC:=nD (L:=L) h
    bW:=Mg (L:=L) h }
def Rl (x:PR α)(y:RR α):Prop:=match x with
 | none=>True
 | some (.ok a k)=>y=some (a,(k,none))
 | some (.bad t)=>Jk t y
theorem Rl.bd {x:PR α}{y:RR α}{f:α->Nat->PR β}{g:α->bJ->RR β}(h:Rl x y)(hf:∀a k,Rl (f a k) (g a (k,none)))(hg:∀a k t,Jk t (g a (k,some t))):Rl (bd x f) (rb y g):=by
 cases x with
 | none=>trivial
 | some r=>
   cases r with
   | ok a k=>
     have h:y=some (a,(k,none)):=h;subst h;exact hf a k
   | bad t=>exact Jk.rb h λa k=>hg a k t
theorem Rl.yes {a:α}{k:Nat}:Rl (yes a k) (ry a (k,none)):=rfl
theorem Rl.fail {k:Nat}{a:α}:Rl (kS L k) (ry a (nw L (k,none))):=⟨a,k,rfl⟩
theorem Rl.aZ {w:List UInt8}{k:Nat}{f:Nat->PR β}{g:bJ->RR β}(hf:Rl (f (k+1)) (g (k+1,none)))(hg:∀t,Jk t (g (k,some t))):Rl (aZ L w k f) (rn L w (k,none) g):=by
 unfold Go.Proofs.YthjhonhhbddhkaaGreatDoor.aZ Go.Proofs.YthjhonhhbddhkaaGreatDoor.rn dZ
 by_cases hi:dN L k w=true
 . rw[if_pos hi,if_pos (show cK L w (k,none)=true from hi)];exact hf
 . rw[if_neg hi,if_neg (show ¬cK L w (k,none)=true from hi)];exact hg _
theorem Rl.bC {c:Int}{k:Nat}{f:Tok->Nat->PR β}{g:List UInt8->bJ->RR β}(hf:Rl (f (tk L k) (k+1)) (g (tk L k).s (k+1,none)))(hg:∀t,Jk t (g [] (k,some t))):Rl (bC L c k f) (rk L c (k,none) g):=by
 unfold Go.Proofs.YthjhonhhbddhkaaGreatDoor.bC Go.Proofs.YthjhonhhbddhkaaGreatDoor.rk
 by_cases hi:(tk L k).k=c
 . have h2:cw L c (k,none)=true:=decide_eq_true hi;rw[if_pos hi,if_pos h2,if_pos h2];exact hf
 . have h2:¬cw L c (k,none)=true:=λq=>hi (of_decide_eq_true q);rw[if_neg hi,if_neg h2,if_neg h2];exact hg _
theorem Rl.cC {b b':Bool}{x y:PR β}{x' y':RR β}(e:b'=b)(h:b=true->Rl x x')(h':Rl y y'):Rl (if b=true then x else y) (if b'=true then x' else y'):=by
 subst e
 by_cases hi:b'=true
 . rw[if_pos hi,if_pos hi];exact h hi
 . rw[if_neg hi,if_neg hi];exact h'
theorem Rl.fh {c:Int}{k:Nat}{x y:PR β}{x' y':RR β}(h:(tk L k).k=c->Rl x x')(h':Rl y y'):Rl (if(tk L k).k=c then x else y) (if cw L c (k,none)=true then x' else y'):=by
 by_cases hi:(tk L k).k=c
 . rw[if_pos hi,if_pos (show cw L c (k,none)=true from decide_eq_true hi)];exact h hi
 . rw[if_neg hi,if_neg (λq:cw L c (k,none)=true=>hi (of_decide_eq_true q))];exact h'
theorem Rl.RO {c:Prop}[Decidable c]{x y:PR β}{x' y':RR β}(h:c->Rl x x')(h':¬c->Rl y y'):Rl (if c then x else y) (if c then x' else y'):=by
 by_cases hi:c
 . rw[if_pos hi,if_pos hi];exact h hi
 . rw[if_neg hi,if_neg hi];exact h' hi
theorem Rl.gd {k:Nat}{x:PR β}{x' y':RR β}(h:Rl x y'):Rl x (if(((k,none):bJ).2.isSome)=true then x' else y'):=h
theorem mz {w:List UInt8}{k:Nat}:jo L w (k,none)=(skip L w k,none):=by
 unfold jo skip
 by_cases hi:dN L k w=true
 . rw[if_pos (show cK L w (k,none)=true from hi),if_pos hi];rfl
 . rw[if_neg (show ¬cK L w (k,none)=true from hi),if_neg hi]
structure fj (q:PS)(p:RP):Prop where
 exp:∀  k,Rl (q.exp  k) (p.exp  (k,none))
 fO:∀e k,Rl (q.fO e k) (p.fO e (k,none))
 bin:∀lv k,Rl (q.bin lv k) (p.bin lv (k,none))
 fy:∀lv a k,Rl (q.fy lv a k) (p.fy lv a (k,none))
 un:∀  k,Rl (q.un  k) (p.un  (k,none))
 fP:∀e k,Rl (q.fP e k) (p.fP e (k,none))
 atom:∀  k,Rl (q.atom  k) (p.atom  (k,none))
 dQ:∀w e k,Rl (q.dQ w e k) (p.dQ w e (k,none))
 lt:∀  k,Rl (q.lt  k) (p.lt  (k,none))
 ga:∀e k,Rl (q.ga e k) (p.ga e (k,none))
 pat:∀  k,Rl (q.pat  k) (p.pat  (k,none))
 bw:∀  k,Rl (q.bw  k) (p.bw  (k,none))
 fQ:∀e k,Rl (q.fQ e k) (p.fQ e (k,none))
 dT:∀  k,Rl (q.dT  k) (p.dT  (k,none))
 dA:∀e k,Rl (q.dA e k) (p.dA e (k,none))
 post:∀  k,Rl (q.post  k) (p.post  (k,none))
 mC:∀e k,Rl (q.mC e k) (p.mC e (k,none))
 cP:∀e k,Rl (q.cP e k) (p.cP e (k,none))
 dY:∀  k,Rl (q.dY  k) (p.dY  (k,none))
 bind:∀  k,Rl (q.bind  k) (p.bind  (k,none))
 fA:∀e k,Rl (q.fA e k) (p.fA e (k,none))
 fn:∀  k,Rl (q.fn  k) (p.fn  (k,none))
 mD:∀e k,Rl (q.mD e k) (p.mD e (k,none))
 dec:∀  k,Rl (q.dec  k) (p.dec  (k,none))
 data:∀  k,Rl (q.data  k) (p.data  (k,none))
 fB:∀e k,Rl (q.fB e k) (p.fB e (k,none))
 fC:∀e k,Rl (q.fC e k) (p.fC e (k,none))
 bW:∀e k,Rl (q.bW e k) (p.bW e (k,none))
variable {q:PS}
theorem RQ (h:fj q p)(hj:cm (n+15) p):∀  k,Rl (xp L q  k) (Bm L p  (k,none)):=by
 intro  k;unfold xp Bm
 repeat' (first
 | exact Rl.yes
 | with_reducible refine Rl.gd ?_
 | with_reducible refine Rl.cC (b':=cK L _ _) rfl (λhi=> ?_) ?_
 | with_reducible refine Rl.fh (λhi=> ?_) ?_
 | with_reducible refine Rl.cC rfl (λhi=> ?_) ?_
 | refine Rl.aZ ?_ (λt=> ?_)
 | refine Rl.bC ?_ (λt=> ?_)
 | exact h.exp _
 | with_reducible refine Rl.bd (h.exp _) (λa k1=> ?_) (λa k1 t=> ?_)
 | exact h.fO _ _
 | with_reducible refine Rl.bd (h.fO _ _) (λa k1=> ?_) (λa k1 t=> ?_)
 | exact h.bin _ _
 | with_reducible refine Rl.bd (h.bin _ _) (λa k1=> ?_) (λa k1 t=> ?_)
 | exact Jk.ry
 | with_reducible refine Jk.is ?_
 | refine Jk.rn ?_
 | with_reducible exact hj.exp _ _ (by omega)
 | with_reducible refine Jk.rb (hj.exp _ _ (by omega)) (λa k1=> ?_)
 | with_reducible exact hj.fO _ _ _ (by omega)
 | with_reducible refine Jk.rb (hj.fO _ _ _ (by omega)) (λa k1=> ?_)
 | with_reducible exact hj.bin _ _ _ (by omega) (by omega)
 | with_reducible refine Jk.rb (hj.bin _ _ _ (by omega) (by omega)) (λa k1=> ?_))
theorem RS (h:fj q p)(hj:cm (n+15) p):∀e k,Rl (xo L q e k) (Bl L p e (k,none)):=by
 intro e k;unfold xo Bl
 repeat' (first
 | exact Rl.yes
 | with_reducible refine Rl.gd ?_
 | with_reducible refine Rl.cC (b':=cK L _ _) rfl (λhi=> ?_) ?_
 | with_reducible refine Rl.fh (λhi=> ?_) ?_
 | with_reducible refine Rl.cC rfl (λhi=> ?_) ?_
 | refine Rl.aZ ?_ (λt=> ?_)
 | refine Rl.bC ?_ (λt=> ?_)
 | exact h.exp _
 | with_reducible refine Rl.bd (h.exp _) (λa k1=> ?_) (λa k1 t=> ?_)
 | exact h.fO _ _
 | with_reducible refine Rl.bd (h.fO _ _) (λa k1=> ?_) (λa k1 t=> ?_)
 | exact h.pat _
 | with_reducible refine Rl.bd (h.pat _) (λa k1=> ?_) (λa k1 t=> ?_)
 | exact Jk.ry
 | with_reducible refine Jk.is ?_
 | with_reducible refine Jk.bad ?_
 | refine Jk.rn ?_
 | with_reducible exact hj.exp _ _ (by omega)
 | with_reducible refine Jk.rb (hj.exp _ _ (by omega)) (λa k1=> ?_)
 | with_reducible exact hj.fO _ _ _ (by omega)
 | with_reducible refine Jk.rb (hj.fO _ _ _ (by omega)) (λa k1=> ?_)
 | with_reducible exact hj.pat _ _ (by omega)
 | with_reducible refine Jk.rb (hj.pat _ _ (by omega)) (λa k1=> ?_))
theorem Jx (h:fj q p)(hj:cm (n+15) p):∀lv a k,Rl (tJ L q lv a k) (gp L p lv a (k,none)):=by
 intro lv a k;unfold tJ gp;refine Rl.cC rfl (λhi=> ?_) Rl.yes;refine Rl.RO (λh2=>Rl.bd (h.bin _ _) (λb k1=>Rl.yes) λb k1 t=>Jk.ry) (λh2=>Rl.bd (h.bin _ _) (λb k1=>h.fy _ _ _) λb k1 t=>hj.fy _ _ _ _ (by omega))
theorem RT (h:fj q p)(hj:cm (n+15) p):∀lv k,Rl (xq L q lv k) (iV L p lv (k,none)):=by
 intro lv k;unfold xq iV;refine Rl.RO (λh7=>h.un k) (λh7=>Rl.bd (h.bin _ _) (λa k1=>Jx h hj _ _ _) λa k1 t=>xE hj _ _ _ _ (by omega))
theorem Bt (h:fj q p)(hj:cm (n+15) p):∀e k,Rl (tK L q e k) (zR L p e (k,none)):=by
 intro e k;unfold tK zR
 repeat' (first
 | exact Rl.yes
 | with_reducible refine Rl.gd ?_
 | with_reducible refine Rl.cC (b':=cK L _ _) rfl (λhi=> ?_) ?_
 | with_reducible refine Rl.fh (λhi=> ?_) ?_
 | with_reducible refine Rl.cC rfl (λhi=> ?_) ?_
 | refine Rl.aZ ?_ (λt=> ?_)
 | refine Rl.bC ?_ (λt=> ?_)
 | exact h.fP _ _
 | with_reducible refine Rl.bd (h.fP _ _) (λa k1=> ?_) (λa k1 t=> ?_)
 | exact h.atom _
 | with_reducible refine Rl.bd (h.atom _) (λa k1=> ?_) (λa k1 t=> ?_)
 | exact Jk.ry
 | with_reducible refine Jk.lP ?_
 | with_reducible exact hj.fP _ _ _ (by omega)
 | with_reducible refine Jk.rb (hj.fP _ _ _ (by omega)) (λa k1=> ?_)
 | with_reducible exact hj.atom _ _ (by omega)
 | with_reducible refine Jk.rb (hj.atom _ _ (by omega)) (λa k1=> ?_))
theorem Ux (h:fj q p)(hj:cm (n+15) p):∀  k,Rl (LY L q  k) (RD L p  (k,none)):=by
 intro  k;unfold LY RD
 repeat' (first
 | exact Rl.yes
 | with_reducible refine Rl.gd ?_
 | with_reducible refine Rl.cC (b':=cK L _ _) rfl (λhi=> ?_) ?_
 | with_reducible refine Rl.fh (λhi=> ?_) ?_
 | with_reducible refine Rl.cC rfl (λhi=> ?_) ?_
 | refine Rl.aZ ?_ (λt=> ?_)
 | refine Rl.bC ?_ (λt=> ?_)
 | exact h.un _
 | with_reducible refine Rl.bd (h.un _) (λa k1=> ?_) (λa k1 t=> ?_)
 | exact h.atom _
 | with_reducible refine Rl.bd (h.atom _) (λa k1=> ?_) (λa k1 t=> ?_)
 | exact Bt h hj _ _
 | with_reducible refine Rl.bd (Bt h hj _ _) (λa k1=> ?_) (λa k1 t=> ?_)
 | exact Jk.ry
 | with_reducible refine Jk.un ?_
 | with_reducible exact hj.un _ _ (by omega)
 | with_reducible refine Jk.rb (hj.un _ _ (by omega)) (λa k1=> ?_)
 | with_reducible exact hj.atom _ _ (by omega)
 | with_reducible refine Jk.rb (hj.atom _ _ (by omega)) (λa k1=> ?_)
 | with_reducible exact sW hj _ _ _ (by omega)
 | with_reducible refine Jk.rb (sW hj _ _ _ (by omega)) (λa k1=> ?_))
theorem s9 (h:fj q p)(hj:cm (n+15) p):∀w e k,Rl (kf L q w e k) (ki L p w e (k,none)):=by
 intro w e k;unfold kf ki
 repeat' (first
 | exact Rl.yes
 | with_reducible refine Rl.gd ?_
 | with_reducible refine Rl.cC (b':=cK L _ _) rfl (λhi=> ?_) ?_
 | with_reducible refine Rl.fh (λhi=> ?_) ?_
 | with_reducible refine Rl.cC rfl (λhi=> ?_) ?_
 | refine Rl.aZ ?_ (λt=> ?_)
 | refine Rl.bC ?_ (λt=> ?_)
 | exact h.exp _
 | with_reducible refine Rl.bd (h.exp _) (λa k1=> ?_) (λa k1 t=> ?_)
 | exact h.dQ _ _ _
 | with_reducible refine Rl.bd (h.dQ _ _ _) (λa k1=> ?_) (λa k1 t=> ?_)
 | exact Jk.ry
 | with_reducible refine Jk.is ?_
 | with_reducible exact hj.exp _ _ (by omega)
 | with_reducible refine Jk.rb (hj.exp _ _ (by omega)) (λa k1=> ?_)
 | with_reducible exact hj.dQ _ _ _ _ (by omega)
 | with_reducible refine Jk.rb (hj.dQ _ _ _ _ (by omega)) (λa k1=> ?_))
theorem Mh (h:fj q p)(hj:cm (n+15) p):∀  k,Rl (nn L q  k) (sR L p  (k,none)):=by
 intro  k;unfold nn sR
 repeat' (first
 | exact Rl.yes
 | with_reducible refine Rl.gd ?_
 | with_reducible refine Rl.cC (b':=cK L _ _) rfl (λhi=> ?_) ?_
 | with_reducible refine Rl.fh (λhi=> ?_) ?_
 | with_reducible refine Rl.cC rfl (λhi=> ?_) ?_
 | refine Rl.aZ ?_ (λt=> ?_)
 | refine Rl.bC ?_ (λt=> ?_)
 | exact h.exp _
 | with_reducible refine Rl.bd (h.exp _) (λa k1=> ?_) (λa k1 t=> ?_)
 | exact h.lt _
 | with_reducible refine Rl.bd (h.lt _) (λa k1=> ?_) (λa k1 t=> ?_)
 | exact s9 h hj _ _ _
 | with_reducible refine Rl.bd (s9 h hj _ _ _) (λa k1=> ?_) (λa k1 t=> ?_)
 | exact Jk.ry
 | with_reducible refine Jk.is ?_
 | with_reducible refine Jk.kd ?_
 | with_reducible refine Jk.bad ?_
 | refine Jk.rn ?_
 | with_reducible exact hj.exp _ _ (by omega)
 | with_reducible refine Jk.rb (hj.exp _ _ (by omega)) (λa k1=> ?_)
 | with_reducible exact hj.lt _ _ (by omega)
 | with_reducible refine Jk.rb (hj.lt _ _ (by omega)) (λa k1=> ?_)
 | with_reducible exact j0 hj _ _ _ _ (by omega)
 | with_reducible refine Jk.rb (j0 hj _ _ _ _ (by omega)) (λa k1=> ?_))
theorem Bu (h:fj q p)(hj:cm (n+15) p):∀e k,Rl (tL L q e k) (Bn L p e (k,none)):=by
 intro e k;unfold tL Bn;refine Rl.gd (Rl.cC rfl (λhi=>Rl.yes) (Rl.bd (h.bind _) (λd k1=> ?_) λd k1 t=> ?_))
 . cases d with
   | some d=>
     show Rl (q.ga (e++[d]) (skip L [59] k1)) (p.ga (e++[d]) (jo L [59] (k1,none)));rw[mz];exact h.ga _ _
   | none=>exact hj.ga _ _ _ (by omega)
 . cases d with
   | some d=>exact hj.ga _ _ _ (by omega)
   | none=>exact hj.ga _ _ _ (by omega)
theorem Uy (h:fj q p)(hj:cm (n+15) p):∀  k,Rl (LZ L q  k) (RE L p  (k,none)):=by
 intro  k;unfold LZ RE
 repeat' (first
 | exact Rl.yes
 | with_reducible refine Rl.gd ?_
 | with_reducible refine Rl.cC (b':=cK L _ _) rfl (λhi=> ?_) ?_
 | with_reducible refine Rl.fh (λhi=> ?_) ?_
 | with_reducible refine Rl.cC rfl (λhi=> ?_) ?_
 | refine Rl.aZ ?_ (λt=> ?_)
 | refine Rl.bC ?_ (λt=> ?_)
 | exact h.exp _
 | with_reducible refine Rl.bd (h.exp _) (λa k1=> ?_) (λa k1 t=> ?_)
 | exact Bu h hj _ _
 | with_reducible refine Rl.bd (Bu h hj _ _) (λa k1=> ?_) (λa k1 t=> ?_)
 | exact s9 h hj _ _ _
 | with_reducible refine Rl.bd (s9 h hj _ _ _) (λa k1=> ?_) (λa k1 t=> ?_)
 | exact Jk.ry
 | with_reducible refine Jk.is ?_
 | refine Jk.rn ?_
 | with_reducible exact hj.exp _ _ (by omega)
 | with_reducible refine Jk.rb (hj.exp _ _ (by omega)) (λa k1=> ?_)
 | with_reducible exact sX hj _ _ _ (by omega)
 | with_reducible refine Jk.rb (sX hj _ _ _ (by omega)) (λa k1=> ?_)
 | with_reducible exact j0 hj _ _ _ _ (by omega)
 | with_reducible refine Jk.rb (j0 hj _ _ _ _ (by omega)) (λa k1=> ?_))
theorem Jy (h:fj q p)(hj:cm (n+15) p):∀k,Rl (zO L q k) (uL L p (k,none)):=by
 intro k;unfold zO uL
 repeat' (first
 | exact Rl.yes
 | with_reducible refine Rl.gd ?_
 | with_reducible refine Rl.cC (b':=cK L _ _) rfl (λhi=> ?_) ?_
 | with_reducible refine Rl.fh (λhi=> ?_) ?_
 | with_reducible refine Rl.cC rfl (λhi=> ?_) ?_
 | refine Rl.aZ ?_ (λt=> ?_)
 | refine Rl.bC ?_ (λt=> ?_)
 | exact h.bw _
 | with_reducible refine Rl.bd (h.bw _) (λa k1=> ?_) (λa k1 t=> ?_)
 | exact Jk.ry
 | with_reducible refine Jk.kd ?_
 | with_reducible refine Jk.kT ?_
 | with_reducible exact hj.bw _ _ (by omega)
 | with_reducible refine Jk.rb (hj.bw _ _ (by omega)) (λa k1=> ?_))
theorem RU (h:fj q p)(hj:cm (n+15) p):∀  k,Rl (xr L q  k) (Bo L p  (k,none)):=by
 intro  k;unfold xr Bo
 repeat' (first
 | exact Rl.yes
 | with_reducible refine Rl.gd ?_
 | with_reducible refine Rl.cC (b':=cK L _ _) rfl (λhi=> ?_) ?_
 | with_reducible refine Rl.fh (λhi=> ?_) ?_
 | with_reducible refine Rl.cC rfl (λhi=> ?_) ?_
 | refine Rl.aZ ?_ (λt=> ?_)
 | refine Rl.bC ?_ (λt=> ?_)
 | exact h.pat _
 | with_reducible refine Rl.bd (h.pat _) (λa k1=> ?_) (λa k1 t=> ?_)
 | exact Jy h hj _
 | with_reducible refine Rl.bd (Jy h hj _) (λa k1=> ?_) (λa k1 t=> ?_)
 | exact Jk.ry
 | with_reducible refine Jk.is ?_
 | with_reducible exact hj.pat _ _ (by omega)
 | with_reducible refine Jk.rb (hj.pat _ _ (by omega)) (λa k1=> ?_)
 | with_reducible exact qv hj _ _ (by omega)
 | with_reducible refine Jk.rb (qv hj _ _ (by omega)) (λa k1=> ?_))
theorem xG (h:fj q p)(hj:cm (n+15) p):∀e k,Rl (l4 L q e k) (pg L p e (k,none)):=by
 intro e k;unfold l4 pg
 repeat' (first
 | exact Rl.yes
 | with_reducible refine Rl.gd ?_
 | with_reducible refine Rl.cC (b':=cK L _ _) rfl (λhi=> ?_) ?_
 | with_reducible refine Rl.fh (λhi=> ?_) ?_
 | with_reducible refine Rl.cC rfl (λhi=> ?_) ?_
 | refine Rl.aZ ?_ (λt=> ?_)
 | refine Rl.bC ?_ (λt=> ?_)
 | exact h.pat _
 | with_reducible refine Rl.bd (h.pat _) (λa k1=> ?_) (λa k1 t=> ?_)
 | exact h.fQ _ _
 | with_reducible refine Rl.bd (h.fQ _ _) (λa k1=> ?_) (λa k1 t=> ?_)
 | exact Jk.ry
 | with_reducible refine Jk.is ?_
 | with_reducible exact hj.pat _ _ (by omega)
 | with_reducible refine Jk.rb (hj.pat _ _ (by omega)) (λa k1=> ?_)
 | with_reducible exact hj.fQ _ _ _ (by omega)
 | with_reducible refine Jk.rb (hj.fQ _ _ _ (by omega)) (λa k1=> ?_))
theorem Jz (h:fj q p)(hj:cm (n+15) p):∀  k,Rl (jX L q  k) (my L p  (k,none)):=by
 intro  k;unfold jX my
 repeat' (first
 | exact Rl.yes
 | with_reducible refine Rl.gd ?_
 | with_reducible refine Rl.cC (b':=cK L _ _) rfl (λhi=> ?_) ?_
 | with_reducible refine Rl.fh (λhi=> ?_) ?_
 | with_reducible refine Rl.cC rfl (λhi=> ?_) ?_
 | refine Rl.aZ ?_ (λt=> ?_)
 | refine Rl.bC ?_ (λt=> ?_)
 | exact h.pat _
 | with_reducible refine Rl.bd (h.pat _) (λa k1=> ?_) (λa k1 t=> ?_)
 | exact xG h hj _ _
 | with_reducible refine Rl.bd (xG h hj _ _) (λa k1=> ?_) (λa k1 t=> ?_)
 | exact Jk.ry
 | with_reducible refine Jk.is ?_
 | with_reducible refine Jk.kd ?_
 | with_reducible refine Jk.bad ?_
 | refine Jk.rn ?_
 | refine Jk.rk ?_
 | with_reducible exact hj.pat _ _ (by omega)
 | with_reducible refine Jk.rb (hj.pat _ _ (by omega)) (λa k1=> ?_)
 | with_reducible exact ny hj _ _ _ (by omega)
 | with_reducible refine Jk.rb (ny hj _ _ _ (by omega)) (λa k1=> ?_))
theorem xH (h:fj q p)(hj:cm (n+15) p):∀e k,Rl (l5 L q e k) (kV L p e (k,none)):=by
 intro e k;unfold l5 kV
 repeat' (first
 | exact Rl.yes
 | with_reducible refine Rl.gd ?_
 | with_reducible refine Rl.cC (b':=cK L _ _) rfl (λhi=> ?_) ?_
 | with_reducible refine Rl.fh (λhi=> ?_) ?_
 | with_reducible refine Rl.cC rfl (λhi=> ?_) ?_
 | refine Rl.aZ ?_ (λt=> ?_)
 | refine Rl.bC ?_ (λt=> ?_)
 | exact h.dA _ _
 | with_reducible refine Rl.bd (h.dA _ _) (λa k1=> ?_) (λa k1 t=> ?_)
 | exact h.post _
 | with_reducible refine Rl.bd (h.post _) (λa k1=> ?_) (λa k1 t=> ?_)
 | exact Jk.ry
 | with_reducible refine Jk.is ?_
 | with_reducible exact hj.dA _ _ _ (by omega)
 | with_reducible refine Jk.rb (hj.dA _ _ _ (by omega)) (λa k1=> ?_)
 | with_reducible exact hj.post _ _ (by omega)
 | with_reducible refine Jk.rb (hj.post _ _ (by omega)) (λa k1=> ?_))
theorem ED (h:fj q p)(hj:cm (n+15) p):∀k,Rl (pb L q k) (kW L p (k,none)):=by
 intro k;unfold pb kW
 repeat' (first
 | exact Rl.yes
 | with_reducible refine Rl.gd ?_
 | with_reducible refine Rl.cC (b':=cK L _ _) rfl (λhi=> ?_) ?_
 | with_reducible refine Rl.fh (λhi=> ?_) ?_
 | with_reducible refine Rl.cC rfl (λhi=> ?_) ?_
 | refine Rl.aZ ?_ (λt=> ?_)
 | refine Rl.bC ?_ (λt=> ?_)
 | exact h.post _
 | with_reducible refine Rl.bd (h.post _) (λa k1=> ?_) (λa k1 t=> ?_)
 | exact xH h hj _ _
 | with_reducible refine Rl.bd (xH h hj _ _) (λa k1=> ?_) (λa k1 t=> ?_)
 | exact Jk.ry
 | with_reducible refine Jk.is ?_
 | with_reducible exact hj.post _ _ (by omega)
 | with_reducible refine Jk.rb (hj.post _ _ (by omega)) (λa k1=> ?_)
 | with_reducible exact kY hj _ _ _ (by omega)
 | with_reducible refine Jk.rb (kY hj _ _ _ (by omega)) (λa k1=> ?_))
theorem RV (h:fj q p)(hj:cm (n+15) p):∀  k,Rl (xu L q  k) (Bp L p  (k,none)):=by
 intro  k;unfold xu Bp
 repeat' (first
 | exact Rl.yes
 | with_reducible refine Rl.gd ?_
 | with_reducible refine Rl.cC (b':=cK L _ _) rfl (λhi=> ?_) ?_
 | with_reducible refine Rl.fh (λhi=> ?_) ?_
 | with_reducible refine Rl.cC rfl (λhi=> ?_) ?_
 | refine Rl.aZ ?_ (λt=> ?_)
 | refine Rl.bC ?_ (λt=> ?_)
 | exact h.dT _
 | with_reducible refine Rl.bd (h.dT _) (λa k1=> ?_) (λa k1 t=> ?_)
 | exact ED h hj _
 | with_reducible refine Rl.bd (ED h hj _) (λa k1=> ?_) (λa k1 t=> ?_)
 | exact Jk.ry
 | with_reducible refine Jk.is ?_
 | with_reducible exact hj.dT _ _ (by omega)
 | with_reducible refine Jk.rb (hj.dT _ _ (by omega)) (λa k1=> ?_)
 | with_reducible exact nA hj _ _ (by omega)
 | with_reducible refine Jk.rb (nA hj _ _ (by omega)) (λa k1=> ?_))
theorem JA (h:fj q p)(hj:cm (n+15) p):∀e k,Rl (oG L q e k) (tO L p e (k,none)):=by
 intro e k;unfold oG tO
 repeat' (first
 | exact Rl.yes
 | with_reducible refine Rl.gd ?_
 | with_reducible refine Rl.cC (b':=cK L _ _) rfl (λhi=> ?_) ?_
 | with_reducible refine Rl.fh (λhi=> ?_) ?_
 | with_reducible refine Rl.cC rfl (λhi=> ?_) ?_
 | refine Rl.aZ ?_ (λt=> ?_)
 | refine Rl.bC ?_ (λt=> ?_)
 | exact h.dT _
 | with_reducible refine Rl.bd (h.dT _) (λa k1=> ?_) (λa k1 t=> ?_)
 | exact h.mC _ _
 | with_reducible refine Rl.bd (h.mC _ _) (λa k1=> ?_) (λa k1 t=> ?_)
 | exact Jk.ry
 | with_reducible refine Jk.is ?_
 | with_reducible exact hj.dT _ _ (by omega)
 | with_reducible refine Jk.rb (hj.dT _ _ (by omega)) (λa k1=> ?_)
 | with_reducible exact hj.mC _ _ _ (by omega)
 | with_reducible refine Jk.rb (hj.mC _ _ _ (by omega)) (λa k1=> ?_))
theorem EE (h:fj q p)(hj:cm (n+15) p):∀k,Rl (pc L q k) (oH L p (k,none)):=by
 intro k;unfold pc oH
 by_cases h5:(tk L k).k=5
 . rw[if_pos h5,if_pos (show(tk L ((k,none):bJ).1).k=5 from h5)];show _=_;unfold rk;have h2:cw L 5 (k,none)=true:=decide_eq_true h5;rw[if_pos h2,if_pos h2];rfl
 . rw[if_neg h5,if_neg (show ¬(tk L ((k,none):bJ).1).k=5 from h5)];refine Rl.cC rfl (λhi=>Rl.yes) (Rl.aZ (Rl.gd (Rl.bd (h.dT _) (λa k1=>Rl.cC (b':=cK L _ _) rfl (λhi=>Rl.bd (JA h hj _ _) (λl k2=>Rl.aZ ?_ λt=> ?_) λl k2 t=> ?_) (Rl.aZ Rl.yes λt=>Jk.ry)) (λa k1 t=> ?_))) λt=>Jk.ry)
   . by_cases ht:iU L (k2+1)=true
     . have h2:kj L (k2+1,none)=true:=ht;rw[if_pos ht,if_pos h2,if_pos h2];exact Rl.yes
     . have h2:¬kj L (k2+1,none)=true:=ht;rw[if_neg ht,if_neg h2,if_neg h2];exact Rl.fail
   . exact Jk.ry
   . exact Jk.ry
   . exact Jk.ry
theorem xI (h:fj q p)(hj:cm (n+15) p):∀e k,Rl (ka L q e k) (jq L p e (k,none)):=by
 intro e k;unfold ka jq
 repeat' (first
 | exact Rl.yes
 | with_reducible refine Rl.gd ?_
 | with_reducible refine Rl.cC (b':=cK L _ _) rfl (λhi=> ?_) ?_
 | with_reducible refine Rl.fh (λhi=> ?_) ?_
 | with_reducible refine Rl.cC rfl (λhi=> ?_) ?_
 | refine Rl.aZ ?_ (λt=> ?_)
 | refine Rl.bC ?_ (λt=> ?_)
 | exact h.cP _ _
 | with_reducible refine Rl.bd (h.cP _ _) (λa k1=> ?_) (λa k1 t=> ?_)
 | exact Jk.ry
 | with_reducible refine Jk.Xs ?_
 | with_reducible exact hj.cP _ _ _ (by omega)
 | with_reducible refine Jk.rb (hj.cP _ _ _ (by omega)) (λa k1=> ?_))
theorem Mi (h:fj q p)(hj:cm (n+15) p):∀  k,Rl (np L q  k) (sS L p  (k,none)):=by
 intro  k;unfold np sS
 repeat' (first
 | exact Rl.yes
 | with_reducible refine Rl.gd ?_
 | with_reducible refine Rl.cC (b':=cK L _ _) rfl (λhi=> ?_) ?_
 | with_reducible refine Rl.fh (λhi=> ?_) ?_
 | with_reducible refine Rl.cC rfl (λhi=> ?_) ?_
 | refine Rl.aZ ?_ (λt=> ?_)
 | refine Rl.bC ?_ (λt=> ?_)
 | exact EE h hj _
 | with_reducible refine Rl.bd (EE h hj _) (λa k1=> ?_) (λa k1 t=> ?_)
 | exact xI h hj _ _
 | with_reducible refine Rl.bd (xI h hj _ _) (λa k1=> ?_) (λa k1 t=> ?_)
 | exact Jk.ry
 | with_reducible exact nB hj _ _ (by omega)
 | with_reducible refine Jk.rb (nB hj _ _ (by omega)) (λa k1=> ?_)
 | with_reducible exact nC hj _ _ _ (by omega)
 | with_reducible refine Jk.rb (nC hj _ _ _ (by omega)) (λa k1=> ?_))
theorem RW (h:fj q p)(hj:cm (n+15) p):∀  k,Rl (xw L q  k) (Bq L p  (k,none)):=by
 intro  k;unfold xw Bq
 repeat' (first
 | exact Rl.yes
 | with_reducible refine Rl.gd ?_
 | with_reducible refine Rl.cC (b':=cK L _ _) rfl (λhi=> ?_) ?_
 | with_reducible refine Rl.fh (λhi=> ?_) ?_
 | with_reducible refine Rl.cC rfl (λhi=> ?_) ?_
 | refine Rl.aZ ?_ (λt=> ?_)
 | refine Rl.bC ?_ (λt=> ?_)
 | exact h.dT _
 | with_reducible refine Rl.bd (h.dT _) (λa k1=> ?_) (λa k1 t=> ?_)
 | exact Jk.ry
 | with_reducible refine Jk.is ?_
 | refine Jk.rk ?_
 | with_reducible exact hj.dT _ _ (by omega)
 | with_reducible refine Jk.rb (hj.dT _ _ (by omega)) (λa k1=> ?_))
theorem Bv (h:fj q p)(hj:cm (n+15) p):∀e k,Rl (tM L q e k) (zS L p e (k,none)):=by
 intro e k;unfold tM zS
 repeat' (first
 | exact Rl.yes
 | with_reducible refine Rl.gd ?_
 | with_reducible refine Rl.cC (b':=cK L _ _) rfl (λhi=> ?_) ?_
 | with_reducible refine Rl.fh (λhi=> ?_) ?_
 | with_reducible refine Rl.cC rfl (λhi=> ?_) ?_
 | refine Rl.aZ ?_ (λt=> ?_)
 | refine Rl.bC ?_ (λt=> ?_)
 | exact h.fA _ _
 | with_reducible refine Rl.bd (h.fA _ _) (λa k1=> ?_) (λa k1 t=> ?_)
 | exact h.fn _
 | with_reducible refine Rl.bd (h.fn _) (λa k1=> ?_) (λa k1 t=> ?_)
 | exact Jk.ry
 | with_reducible refine Jk.is ?_
 | with_reducible exact hj.fA _ _ _ (by omega)
 | with_reducible refine Jk.rb (hj.fA _ _ _ (by omega)) (λa k1=> ?_)
 | with_reducible exact hj.fn _ _ (by omega)
 | with_reducible refine Jk.rb (hj.fn _ _ (by omega)) (λa k1=> ?_))
theorem Mj (h:fj q p)(hj:cm (n+15) p):∀  k,Rl (nq L q  k) (sT L p  (k,none)):=by
 intro  k;unfold nq sT
 repeat' (first
 | exact Rl.yes
 | with_reducible refine Rl.gd ?_
 | with_reducible refine Rl.cC (b':=cK L _ _) rfl (λhi=> ?_) ?_
 | with_reducible refine Rl.fh (λhi=> ?_) ?_
 | with_reducible refine Rl.cC rfl (λhi=> ?_) ?_
 | refine Rl.aZ ?_ (λt=> ?_)
 | refine Rl.bC ?_ (λt=> ?_)
 | exact h.exp _
 | with_reducible refine Rl.bd (h.exp _) (λa k1=> ?_) (λa k1 t=> ?_)
 | exact h.pat _
 | with_reducible refine Rl.bd (h.pat _) (λa k1=> ?_) (λa k1 t=> ?_)
 | exact h.fn _
 | with_reducible refine Rl.bd (h.fn _) (λa k1=> ?_) (λa k1 t=> ?_)
 | exact Bv h hj _ _
 | with_reducible refine Rl.bd (Bv h hj _ _) (λa k1=> ?_) (λa k1 t=> ?_)
 | exact Jk.ry
 | with_reducible refine Jk.is ?_
 | refine Jk.rn ?_
 | with_reducible exact hj.exp _ _ (by omega)
 | with_reducible refine Jk.rb (hj.exp _ _ (by omega)) (λa k1=> ?_)
 | with_reducible exact hj.pat _ _ (by omega)
 | with_reducible refine Jk.rb (hj.pat _ _ (by omega)) (λa k1=> ?_)
 | with_reducible exact hj.fn _ _ (by omega)
 | with_reducible refine Jk.rb (hj.fn _ _ (by omega)) (λa k1=> ?_)
 | with_reducible exact sY hj _ _ _ (by omega)
 | with_reducible refine Jk.rb (sY hj _ _ _ (by omega)) (λa k1=> ?_))
theorem Bw (h:fj q p)(hj:cm (n+15) p):∀e k,Rl (tN L q e k) (xD L p e (k,none)):=by
 intro e k;unfold tN xD
 repeat' (first
 | exact Rl.yes
 | with_reducible refine Rl.gd ?_
 | with_reducible refine Rl.cC (b':=cK L _ _) rfl (λhi=> ?_) ?_
 | with_reducible refine Rl.fh (λhi=> ?_) ?_
 | with_reducible refine Rl.cC rfl (λhi=> ?_) ?_
 | refine Rl.aZ ?_ (λt=> ?_)
 | refine Rl.bC ?_ (λt=> ?_)
 | exact h.bw _
 | with_reducible refine Rl.bd (h.bw _) (λa k1=> ?_) (λa k1 t=> ?_)
 | exact h.mD _ _
 | with_reducible refine Rl.bd (h.mD _ _) (λa k1=> ?_) (λa k1 t=> ?_)
 | exact Jk.ry
 | with_reducible refine Jk.kT ?_
 | with_reducible exact hj.bw _ _ (by omega)
 | with_reducible refine Jk.rb (hj.bw _ _ (by omega)) (λa k1=> ?_)
 | with_reducible exact hj.mD _ _ _ (by omega)
 | with_reducible refine Jk.rb (hj.mD _ _ _ (by omega)) (λa k1=> ?_))
theorem Uz (h:fj q p)(hj:cm (n+15) p):∀  k,Rl (L0 L q  k) (RF L p  (k,none)):=by
 intro  k;unfold L0 RF
 repeat' (first
 | exact Rl.yes
 | with_reducible refine Rl.gd ?_
 | with_reducible refine Rl.cC (b':=cK L _ _) rfl (λhi=> ?_) ?_
 | with_reducible refine Rl.fh (λhi=> ?_) ?_
 | with_reducible refine Rl.cC rfl (λhi=> ?_) ?_
 | refine Rl.aZ ?_ (λt=> ?_)
 | refine Rl.bC ?_ (λt=> ?_)
 | exact h.exp _
 | with_reducible refine Rl.bd (h.exp _) (λa k1=> ?_) (λa k1 t=> ?_)
 | exact h.bw _
 | with_reducible refine Rl.bd (h.bw _) (λa k1=> ?_) (λa k1 t=> ?_)
 | exact Bw h hj _ _
 | with_reducible refine Rl.bd (Bw h hj _ _) (λa k1=> ?_) (λa k1 t=> ?_)
 | exact Jk.ry
 | refine Jk.rn ?_
 | refine Jk.rk ?_
 | with_reducible exact hj.exp _ _ (by omega)
 | with_reducible refine Jk.rb (hj.exp _ _ (by omega)) (λa k1=> ?_)
 | with_reducible exact hj.bw _ _ (by omega)
 | with_reducible refine Jk.rb (hj.bw _ _ (by omega)) (λa k1=> ?_)
 | with_reducible exact sZ hj _ _ _ (by omega)
 | with_reducible refine Jk.rb (sZ hj _ _ _ (by omega)) (λa k1=> ?_))
theorem RX (h:fj q p)(hj:cm (n+15) p):∀  k,Rl (xx L q  k) (Br L p  (k,none)):=by
 intro  k;unfold xx Br
 repeat' (first
 | exact Rl.yes
 | with_reducible refine Rl.gd ?_
 | with_reducible refine Rl.cC (b':=cK L _ _) rfl (λhi=> ?_) ?_
 | with_reducible refine Rl.fh (λhi=> ?_) ?_
 | with_reducible refine Rl.cC rfl (λhi=> ?_) ?_
 | refine Rl.aZ ?_ (λt=> ?_)
 | refine Rl.bC ?_ (λt=> ?_)
 | exact h.dY _
 | with_reducible refine Rl.bd (h.dY _) (λa k1=> ?_) (λa k1 t=> ?_)
 | exact h.bind _
 | with_reducible refine Rl.bd (h.bind _) (λa k1=> ?_) (λa k1 t=> ?_)
 | exact h.data _
 | with_reducible refine Rl.bd (h.data _) (λa k1=> ?_) (λa k1 t=> ?_)
 | exact Jk.ry
 | with_reducible refine Jk.is ?_
 | with_reducible exact hj.dY _ _ (by omega)
 | with_reducible refine Jk.rb (hj.dY _ _ (by omega)) (λa k1=> ?_)
 | with_reducible exact hj.bind _ _ (by omega)
 | with_reducible refine Jk.rb (hj.bind _ _ (by omega)) (λa k1=> ?_)
 | with_reducible exact hj.data _ _ (by omega)
 | with_reducible refine Jk.rb (hj.data _ _ (by omega)) (λa k1=> ?_))
theorem JB (h:fj q p)(hj:cm (n+15) p):∀e k,Rl (nr L q e k) (ph L p e (k,none)):=by
 intro e k;unfold nr ph
 repeat' (first
 | exact Rl.yes
 | with_reducible refine Rl.gd ?_
 | with_reducible refine Rl.cC (b':=cK L _ _) rfl (λhi=> ?_) ?_
 | with_reducible refine Rl.fh (λhi=> ?_) ?_
 | with_reducible refine Rl.cC rfl (λhi=> ?_) ?_
 | refine Rl.aZ ?_ (λt=> ?_)
 | refine Rl.bC ?_ (λt=> ?_)
 | exact h.fB _ _
 | with_reducible refine Rl.bd (h.fB _ _) (λa k1=> ?_) (λa k1 t=> ?_)
 | exact Jk.ry
 | with_reducible refine Jk.is ?_
 | refine Jk.rk ?_
 | with_reducible exact hj.fB _ _ _ (by omega)
 | with_reducible refine Jk.rb (hj.fB _ _ _ (by omega)) (λa k1=> ?_))
theorem EF (h:fj q p)(hj:cm (n+15) p):∀k,Rl (pe L q k) (uM L p (k,none)):=by
 intro k;unfold pe uM
 by_cases h5:(tk L k).k=5
 . rw[if_pos h5,if_pos (show(tk L ((k,none):bJ).1).k=5 from h5)];show _=_;unfold rk;have h2:cw L 5 (k,none)=true:=decide_eq_true h5;rw[if_pos h2,if_pos h2];rfl
 . rw[if_neg h5,if_neg (show ¬(tk L ((k,none):bJ).1).k=5 from h5)];refine Rl.cC rfl (λhi=> ?_) Rl.yes;exact Rl.bC (Rl.bd (JB h hj _ _) (λl k1=>Rl.aZ Rl.yes λt=>Jk.ry) λl k1 t=>Jk.ry) λt=>Jk.ry
theorem xJ (h:fj q p)(hj:cm (n+15) p):∀e k,Rl (iu L q e k) (kX L p e (k,none)):=by
 intro e k;unfold iu kX
 repeat' (first
 | exact Rl.yes
 | with_reducible refine Rl.gd ?_
 | with_reducible refine Rl.cC (b':=cK L _ _) rfl (λhi=> ?_) ?_
 | with_reducible refine Rl.fh (λhi=> ?_) ?_
 | with_reducible refine Rl.cC rfl (λhi=> ?_) ?_
 | refine Rl.aZ ?_ (λt=> ?_)
 | refine Rl.bC ?_ (λt=> ?_)
 | exact h.dY _
 | with_reducible refine Rl.bd (h.dY _) (λa k1=> ?_) (λa k1 t=> ?_)
 | exact h.fC _ _
 | with_reducible refine Rl.bd (h.fC _ _) (λa k1=> ?_) (λa k1 t=> ?_)
 | exact Jk.ry
 | with_reducible refine Jk.is ?_
 | with_reducible exact hj.dY _ _ (by omega)
 | with_reducible refine Jk.rb (hj.dY _ _ (by omega)) (λa k1=> ?_)
 | with_reducible exact hj.fC _ _ _ (by omega)
 | with_reducible refine Jk.rb (hj.fC _ _ _ (by omega)) (λa k1=> ?_))
theorem Mk (h:fj q p)(hj:cm (n+15) p):∀  k,Rl (nu L q  k) (sU L p  (k,none)):=by
 intro  k;unfold nu sU
 repeat' (first
 | exact Rl.yes
 | with_reducible refine Rl.gd ?_
 | with_reducible refine Rl.cC (b':=cK L _ _) rfl (λhi=> ?_) ?_
 | with_reducible refine Rl.fh (λhi=> ?_) ?_
 | with_reducible refine Rl.cC rfl (λhi=> ?_) ?_
 | refine Rl.aZ ?_ (λt=> ?_)
 | refine Rl.bC ?_ (λt=> ?_)
 | exact h.dY _
 | with_reducible refine Rl.bd (h.dY _) (λa k1=> ?_) (λa k1 t=> ?_)
 | exact EF h hj _
 | with_reducible refine Rl.bd (EF h hj _) (λa k1=> ?_) (λa k1 t=> ?_)
 | exact xJ h hj _ _
 | with_reducible refine Rl.bd (xJ h hj _ _) (λa k1=> ?_) (λa k1 t=> ?_)
 | exact Jk.ry
 | refine Jk.rn ?_
 | refine Jk.rk ?_
 | with_reducible exact hj.dY _ _ (by omega)
 | with_reducible refine Jk.rb (hj.dY _ _ (by omega)) (λa k1=> ?_)
 | with_reducible exact qw hj _ _ (by omega)
 | with_reducible refine Jk.rb (qw hj _ _ (by omega)) (λa k1=> ?_)
 | with_reducible exact nD hj _ _ _ (by omega)
 | with_reducible refine Jk.rb (nD hj _ _ _ (by omega)) (λa k1=> ?_))
theorem Ml (h:fj q p)(hj:cm (n+15) p):∀e k,Rl (nv L q e k) (sV L p e (k,none)):=by
 intro e k;unfold nv sV;refine Rl.gd (Rl.RO (λhi=>Rl.yes) (λhi=>Rl.bd (h.dec _) (λd k1=> ?_) λd k1 t=> ?_))
 . cases d with
   | some d=>
     show Rl (q.bW (e++[d]) (skip L [59] k1)) (p.bW (e++[d]) (jo L [59] (k1,none)));rw[mz];exact h.bW _ _
   | none=>
     refine Rl.bd (h.exp _) (λx k2=> ?_) λx k2 t=>hj.bW _ _ _ (by omega);rw[mz];exact h.bW _ _
 . cases d with
   | some d=>exact hj.bW _ _ _ (by omega)
   | none=>exact Jk.rb (hj.exp _ _ (by omega)) λx k2=>hj.bW _ _ _ (by omega)
theorem UA:∀n,fj (ps L n) (rp L (n+16))
 | 0=>by constructor<;>intros<;>trivial
 | n+1=>by
   have h:=UA n;have hj:cm (n+1+15) (rp L (n+16)):=Uw (n+16);exact {
    exp:=RQ (L:=L) h hj
    fO:=RS (L:=L) h hj
    bin:=RT (L:=L) h hj
    fy:=Jx (L:=L) h hj
    un:=Ux (L:=L) h hj
    fP:=Bt (L:=L) h hj
    atom:=Mh (L:=L) h hj
    dQ:=s9 (L:=L) h hj
    lt:=Uy (L:=L) h hj
    ga:=Bu (L:=L) h hj
    pat:=RU (L:=L) h hj
    bw:=Jz (L:=L) h hj
    fQ:=xG (L:=L) h hj
    dT:=RV (L:=L) h hj
    dA:=xH (L:=L) h hj
    post:=Mi (L:=L) h hj
    mC:=JA (L:=L) h hj
    cP:=xI (L:=L) h hj
    dY:=RW (L:=L) h hj
    bind:=Mj (L:=L) h hj
    fA:=Bv (L:=L) h hj
    fn:=Uz (L:=L) h hj
    mD:=Bw (L:=L) h hj
    dec:=RX (L:=L) h hj
    data:=Mk (L:=L) h hj
    fB:=JB (L:=L) h hj
    fC:=xJ (L:=L) h hj
    bW:=Ml (L:=L) h hj }
end
section
variable {nx0 nx nx' bp k:Nat}{H0 H H':T OB}{F A B G G':List Bx}{s:Bx}{R:Go.Ev.Out->T OB->Nat->Prop}{b:Nat}{l:List Value}{e t:TypeId}{L:List Tok}
abbrev aC:Value:= .slice none 0 0
abbrev gG (b n c:Nat):Value:= .slice (some ⟨b,0,none⟩) n c
theorem Mm (c0 c1 c2 c3 c4 c5:Value)(z:List Value)(hz:bX P 44=some z):Instr.fill (λi=>some (i*6,6)) (bI z (1*6)) [(0,.agg ⟨[c0,c1,c2,c3,c4,c5]⟩)]=some ⟨[c0,c1,c2,c3,c4,c5]⟩:=by
 rw[bc]at hz;cases hz;kernel_rfl
theorem Hq.dp (cs:List Value)(hc:cs.length=6){kt:Value->T OB->Nat->Q}(h:Hp nx0 H0 (s::F) H nx)(hk:∀b H' nx',Hp nx0 H0 (s::(b,cs,44)::F) H' nx'->aO P pl X0 (kt (gG b 1 1) H' nx') nx0 H0 R):aO P pl X0 (ao (aq P H nx 41 1 (some [(0,.agg ⟨cs⟩)])) kt) nx0 H0 R:=
 match cs,hc with
 | [c0,c1,c2,c3,c4,c5],_=>Hq.row fu bG bc rfl (Mm _ _ _ _ _ _ _ bc) h hk
theorem Mn (c0 c1 c2 c3 c4 c5 d0 d1 d2 d3 d4 d5:Value)(z:List Value)(hz:bX P 44=some z):Instr.fill (λi=>some (i*6,6)) (bI z (2*6)) [(0,.agg ⟨[c0,c1,c2,c3,c4,c5]⟩),(1,.agg ⟨[d0,d1,d2,d3,d4,d5]⟩)]=some ⟨[c0,c1,c2,c3,c4,c5,d0,d1,d2,d3,d4,d5]⟩:=by
 rw[bc]at hz;cases hz;kernel_rfl
theorem Hq.nE (cs ds:List Value)(hc:cs.length=6)(hd:ds.length=6){kt:Value->T OB->Nat->Q}(h:Hp nx0 H0 (s::F) H nx)(hk:∀b H' nx',Hp nx0 H0 (s::(b,cs++ds,44)::F) H' nx'->aO P pl X0 (kt (gG b 2 2) H' nx') nx0 H0 R):aO P pl X0 (ao (aq P H nx 41 2 (some [(0,.agg ⟨cs⟩),(1,.agg ⟨ds⟩)])) kt) nx0 H0 R:=
 match cs,hc,ds,hd with
 | [c0,c1,c2,c3,c4,c5],_,[d0,d1,d2,d3,d4,d5],_=>Hq.row fu bG bc rfl (Mn _ _ _ _ _ _ _ _ _ _ _ _ _ bc) h hk
theorem Mo (c0 c1 c2 c3 c4 c5 d0 d1 d2 d3 d4 d5 f0 f1 f2 f3 f4 f5:Value)(z:List Value)(hz:bX P 44=some z):Instr.fill (λi=>some (i*6,6)) (bI z (3*6)) [(0,.agg ⟨[c0,c1,c2,c3,c4,c5]⟩),(1,.agg ⟨[d0,d1,d2,d3,d4,d5]⟩),(2,.agg ⟨[f0,f1,f2,f3,f4,f5]⟩)]=some ⟨[c0,c1,c2,c3,c4,c5,d0,d1,d2,d3,d4,d5,f0,f1,f2,f3,f4,f5]⟩:=by
 rw[bc]at hz;cases hz;kernel_rfl
theorem Hq.EG (cs ds fs:List Value)(hc:cs.length=6)(hd:ds.length=6)(hf:fs.length=6){kt:Value->T OB->Nat->Q}(h:Hp nx0 H0 (s::F) H nx)(hk:∀b H' nx',Hp nx0 H0 (s::(b,cs++ds++fs,44)::F) H' nx'->aO P pl X0 (kt (gG b 3 3) H' nx') nx0 H0 R):aO P pl X0 (ao (aq P H nx 41 3 (some [(0,.agg ⟨cs⟩),(1,.agg ⟨ds⟩),(2,.agg ⟨fs⟩)])) kt) nx0 H0 R:=
 match cs,hc,ds,hd,fs,hf with
 | [c0,c1,c2,c3,c4,c5],_,[d0,d1,d2,d3,d4,d5],_,[f0,f1,f2,f3,f4,f5],_=>Hq.row fu bG bc rfl (Mo _ _ _ _ _ _ _ _ _ _ _ _ _ _ _ _ _ _ _ bc) h hk
theorem UB {n:Nat}(h:n<=1048576):bV P 44 6 n=true:=by
 have:bV P 44 6 n=(Nat.ble n 1048576&&true):=by kernel_rfl
 rw[this,Nat.ble_eq_true_of_le h];rfl
theorem aH.fR (x:aH):pa true 6 [x.v]:=λv hv=>by
 rw[List.mem_singleton]at hv;subst hv;rw[aH.br];exact⟨rfl,rfl,⟨_,rfl⟩⟩
theorem aH.Xt (l:List aH):pa true 6 (l.map aH.v):=λv hv=>by
 obtain⟨x,_,rfl⟩:=List.mem_map.1 hv;exact x.fR x.v (by simp)
theorem aH.len (x:aH):x.v.cells.toList.length=6:=(x.fR x.v (by simp)).1
theorem Hq.zT (A:List Bx){l:List aH}{x:aH}{sl:Value}{kt:Value->T OB->Nat->Q}(hl:l.length<=1000000)(hG:Gw true 6 44 (l.map aH.v) sl G)(h:Hp nx0 H0 (s::(b,x.v.cells.toList,44)::(A++(G++B))) H nx)
 (hk:∀sl' G' H' nx',Gw true 6 44 ((l++[x]).map aH.v) sl' G'->Hp nx0 H0 (s::(A++(G'++B))) H' nx'->aO P pl X0 (kt sl' H' nx') nx0 H0 R):aO P pl X0 (ao (ba P H nx [41,41] (some [sl,gG b 1 1])) kt) nx0 H0 R:=
 Hq.add A fu bG (UB (by rw[List.length_map];omega)) (by rw[List.length_map];omega) x.fR hG h λsl' G' H' nx' hG' h'=>hk sl' G' H' nx' (by rw[List.map_append];exact hG') h'
theorem Mp (c0 c1 c2 c3:Value)(z:List Value)(hz:bX P 47=some z):Instr.fill (λi=>some (i*4,4)) (bI z (1*4)) [(0,.agg ⟨[c0,c1,c2,c3]⟩)]=some ⟨[c0,c1,c2,c3]⟩:=by
 rw[cS]at hz;cases hz;kernel_rfl
theorem Hq.ed (cs:List Value)(hc:cs.length=4){kt:Value->T OB->Nat->Q}(h:Hp nx0 H0 (s::F) H nx)(hk:∀b H' nx',Hp nx0 H0 (s::(b,cs,47)::F) H' nx'->aO P pl X0 (kt (gG b 1 1) H' nx') nx0 H0 R):aO P pl X0 (ao (aq P H nx 42 1 (some [(0,.agg ⟨cs⟩)])) kt) nx0 H0 R:=
 match cs,hc with
 | [c0,c1,c2,c3],_=>Hq.row er cf cS rfl (Mp _ _ _ _ _ cS) h hk
theorem Mr (c0 c1 c2 c3 d0 d1 d2 d3:Value)(z:List Value)(hz:bX P 47=some z):Instr.fill (λi=>some (i*4,4)) (bI z (2*4)) [(0,.agg ⟨[c0,c1,c2,c3]⟩),(1,.agg ⟨[d0,d1,d2,d3]⟩)]=some ⟨[c0,c1,c2,c3,d0,d1,d2,d3]⟩:=by
 rw[cS]at hz;cases hz;kernel_rfl
theorem Hq.qx (cs ds:List Value)(hc:cs.length=4)(hd:ds.length=4){kt:Value->T OB->Nat->Q}(h:Hp nx0 H0 (s::F) H nx)(hk:∀b H' nx',Hp nx0 H0 (s::(b,cs++ds,47)::F) H' nx'->aO P pl X0 (kt (gG b 2 2) H' nx') nx0 H0 R):aO P pl X0 (ao (aq P H nx 42 2 (some [(0,.agg ⟨cs⟩),(1,.agg ⟨ds⟩)])) kt) nx0 H0 R:=
 match cs,hc,ds,hd with
 | [c0,c1,c2,c3],_,[d0,d1,d2,d3],_=>Hq.row er cf cS rfl (Mr _ _ _ _ _ _ _ _ _ cS) h hk
theorem UC {n:Nat}(h:n<=1048576):bV P 47 4 n=true:=by
 have:bV P 47 4 n=(Nat.ble n 1048576&&true):=by kernel_rfl
 rw[this,Nat.ble_eq_true_of_le h];rfl
theorem bh.fR (x:bh):pa true 4 [x.v]:=λv hv=>by
 rw[List.mem_singleton]at hv;subst hv;rw[bh.br];exact⟨rfl,rfl,⟨_,rfl⟩⟩
theorem bh.len (x:bh):x.v.cells.toList.length=4:=(x.fR x.v (by simp)).1
theorem Hq.uN (A:List Bx){l:List bh}{x:bh}{sl:Value}{kt:Value->T OB->Nat->Q}(hl:l.length<=1000000)(hG:Gw true 4 47 (l.map bh.v) sl G)(h:Hp nx0 H0 (s::(b,x.v.cells.toList,47)::(A++(G++B))) H nx)
 (hk:∀sl' G' H' nx',Gw true 4 47 ((l++[x]).map bh.v) sl' G'->Hp nx0 H0 (s::(A++(G'++B))) H' nx'->aO P pl X0 (kt sl' H' nx') nx0 H0 R):aO P pl X0 (ao (ba P H nx [42,42] (some [sl,gG b 1 1])) kt) nx0 H0 R:=
 Hq.add A er cf (UC (by rw[List.length_map];omega)) (by rw[List.length_map];omega) x.fR hG h λsl' G' H' nx' hG' h'=>hk sl' G' H' nx' (by rw[List.map_append];exact hG') h'
theorem Ms (c0 c1 c2:Value)(z:List Value)(hz:bX P 138=some z):Instr.fill (λi=>some (i*3,3)) (bI z (1*3)) [(0,.agg ⟨[c0,c1,c2]⟩)]=some ⟨[c0,c1,c2]⟩:=by
 rw[cv]at hz;cases hz;kernel_rfl
theorem Hq.e_ (cs:List Value)(hc:cs.length=3){kt:Value->T OB->Nat->Q}(h:Hp nx0 H0 (s::F) H nx)(hk:∀b H' nx',Hp nx0 H0 (s::(b,cs,138)::F) H' nx'->aO P pl X0 (kt (gG b 1 1) H' nx') nx0 H0 R):aO P pl X0 (ao (aq P H nx 53 1 (some [(0,.agg ⟨cs⟩)])) kt) nx0 H0 R:=
 match cs,hc with
 | [c0,c1,c2],_=>Hq.row ez bR cv rfl (Ms _ _ _ _ cv) h hk
theorem Mt (c0 c1 c2 d0 d1 d2:Value)(z:List Value)(hz:bX P 138=some z):Instr.fill (λi=>some (i*3,3)) (bI z (2*3)) [(0,.agg ⟨[c0,c1,c2]⟩),(1,.agg ⟨[d0,d1,d2]⟩)]=some ⟨[c0,c1,c2,d0,d1,d2]⟩:=by
 rw[cv]at hz;cases hz;kernel_rfl
theorem Hq.EH (cs ds:List Value)(hc:cs.length=3)(hd:ds.length=3){kt:Value->T OB->Nat->Q}(h:Hp nx0 H0 (s::F) H nx)(hk:∀b H' nx',Hp nx0 H0 (s::(b,cs++ds,138)::F) H' nx'->aO P pl X0 (kt (gG b 2 2) H' nx') nx0 H0 R):aO P pl X0 (ao (aq P H nx 53 2 (some [(0,.agg ⟨cs⟩),(1,.agg ⟨ds⟩)])) kt) nx0 H0 R:=
 match cs,hc,ds,hd with
 | [c0,c1,c2],_,[d0,d1,d2],_=>Hq.row ez bR cv rfl (Mt _ _ _ _ _ _ _ cv) h hk
theorem RY {n:Nat}(h:n<=1048576):bV P 138 3 n=true:=by
 have:bV P 138 3 n=(Nat.ble n 1048576&&true):=by kernel_rfl
 rw[this,Nat.ble_eq_true_of_le h];rfl
theorem bo.fR (x:bo):pa true 3 [x.v]:=λv hv=>by
 rw[List.mem_singleton]at hv;subst hv;rw[bo.br];exact⟨rfl,rfl,⟨_,rfl⟩⟩
theorem bo.len (x:bo):x.v.cells.toList.length=3:=(x.fR x.v (by simp)).1
theorem Hq.zU (A:List Bx){l:List bo}{x:bo}{sl:Value}{kt:Value->T OB->Nat->Q}(hl:l.length<=1000000)(hG:Gw true 3 138 (l.map bo.v) sl G)(h:Hp nx0 H0 (s::(b,x.v.cells.toList,138)::(A++(G++B))) H nx)
 (hk:∀sl' G' H' nx',Gw true 3 138 ((l++[x]).map bo.v) sl' G'->Hp nx0 H0 (s::(A++(G'++B))) H' nx'->aO P pl X0 (kt sl' H' nx') nx0 H0 R):aO P pl X0 (ao (ba P H nx [53,53] (some [sl,gG b 1 1])) kt) nx0 H0 R:=
 Hq.add A ez bR (RY (by rw[List.length_map];omega)) (by rw[List.length_map];omega) x.fR hG h λsl' G' H' nx' hG' h'=>hk sl' G' H' nx' (by rw[List.map_append];exact hG') h'
theorem Mu (c0 c1:Value)(z:List Value)(hz:bX P 55=some z):Instr.fill (λi=>some (i*2,2)) (bI z (1*2)) [(0,.agg ⟨[c0,c1]⟩)]=some ⟨[c0,c1]⟩:=by
 rw[fZ]at hz;cases hz;kernel_rfl
theorem Hq.xK (cs:List Value)(hc:cs.length=2){kt:Value->T OB->Nat->Q}(h:Hp nx0 H0 (s::F) H nx)(hk:∀b H' nx',Hp nx0 H0 (s::(b,cs,55)::F) H' nx'->aO P pl X0 (kt (gG b 1 1) H' nx') nx0 H0 R):aO P pl X0 (ao (aq P H nx 50 1 (some [(0,.agg ⟨cs⟩)])) kt) nx0 H0 R:=
 match cs,hc with
 | [c0,c1],_=>Hq.row mm il fZ rfl (Mu _ _ _ fZ) h hk
theorem UD {n:Nat}(h:n<=1048576):bV P 55 2 n=true:=by
 have:bV P 55 2 n=(Nat.ble n 1048576&&true):=by kernel_rfl
 rw[this,Nat.ble_eq_true_of_le h];rfl
theorem da.fR (x:da):pa true 2 [x.v]:=λv hv=>by
 rw[List.mem_singleton]at hv;subst hv;rw[da.br];exact⟨rfl,rfl,⟨_,rfl⟩⟩
theorem da.len (x:da):x.v.cells.toList.length=2:=(x.fR x.v (by simp)).1
theorem Hq.OM (A:List Bx){l:List da}{x:da}{sl:Value}{kt:Value->T OB->Nat->Q}(hl:l.length<=1000000)(hG:Gw true 2 55 (l.map da.v) sl G)(h:Hp nx0 H0 (s::(b,x.v.cells.toList,55)::(A++(G++B))) H nx)
 (hk:∀sl' G' H' nx',Gw true 2 55 ((l++[x]).map da.v) sl' G'->Hp nx0 H0 (s::(A++(G'++B))) H' nx'->aO P pl X0 (kt sl' H' nx') nx0 H0 R):aO P pl X0 (ao (ba P H nx [50,50] (some [sl,gG b 1 1])) kt) nx0 H0 R:=
 Hq.add A mm il (UD (by rw[List.length_map];omega)) (by rw[List.length_map];omega) x.fR hG h λsl' G' H' nx' hG' h'=>hk sl' G' H' nx' (by rw[List.map_append];exact hG') h'
theorem Mv (c0 c1 c2 c3 c4 c5 c6 c7:Value)(z:List Value)(hz:bX P 65=some z):Instr.fill (λi=>some (i*8,8)) (bI z (1*8)) [(0,.agg ⟨[c0,c1,c2,c3,c4,c5,c6,c7]⟩)]=some ⟨[c0,c1,c2,c3,c4,c5,c6,c7]⟩:=by
 rw[eZ]at hz;cases hz;kernel_rfl
theorem Hq.xL (cs:List Value)(hc:cs.length=8){kt:Value->T OB->Nat->Q}(h:Hp nx0 H0 (s::F) H nx)(hk:∀b H' nx',Hp nx0 H0 (s::(b,cs,65)::F) H' nx'->aO P pl X0 (kt (gG b 1 1) H' nx') nx0 H0 R):aO P pl X0 (ao (aq P H nx 48 1 (some [(0,.agg ⟨cs⟩)])) kt) nx0 H0 R:=
 match cs,hc with
 | [c0,c1,c2,c3,c4,c5,c6,c7],_=>Hq.row sh jl eZ rfl (Mv _ _ _ _ _ _ _ _ _ eZ) h hk
theorem UE {n:Nat}(h:n<=1048576):bV P 65 8 n=true:=by
 have:bV P 65 8 n=(Nat.ble n 1048576&&true):=by kernel_rfl
 rw[this,Nat.ble_eq_true_of_le h];rfl
theorem Fn.fR (x:Fn):pa true 8 [x.v]:=λv hv=>by
 rw[List.mem_singleton]at hv;subst hv;rw[Fn.br];exact⟨rfl,rfl,⟨_,rfl⟩⟩
theorem Fn.len (x:Fn):x.v.cells.toList.length=8:=(x.fR x.v (by simp)).1
theorem Hq.ON (A:List Bx){l:List Fn}{x:Fn}{sl:Value}{kt:Value->T OB->Nat->Q}(hl:l.length<=1000000)(hG:Gw true 8 65 (l.map Fn.v) sl G)(h:Hp nx0 H0 (s::(b,x.v.cells.toList,65)::(A++(G++B))) H nx)
 (hk:∀sl' G' H' nx',Gw true 8 65 ((l++[x]).map Fn.v) sl' G'->Hp nx0 H0 (s::(A++(G'++B))) H' nx'->aO P pl X0 (kt sl' H' nx') nx0 H0 R):aO P pl X0 (ao (ba P H nx [48,48] (some [sl,gG b 1 1])) kt) nx0 H0 R:=
 Hq.add A sh jl (UE (by rw[List.length_map];omega)) (by rw[List.length_map];omega) x.fR hG h λsl' G' H' nx' hG' h'=>hk sl' G' H' nx' (by rw[List.map_append];exact hG') h'
theorem Mw (c0 c1 c2 c3 c4 c5 c6 c7 c8 c9 c10 c11 c12 c13 c14 c15 c16:Value)(z:List Value)(hz:bX P 57=some z):Instr.fill (λi=>some (i*17,17)) (bI z (1*17)) [(0,.agg ⟨[c0,c1,c2,c3,c4,c5,c6,c7,c8,c9,c10,c11,c12,c13,c14,c15,c16]⟩)]=some ⟨[c0,c1,c2,c3,c4,c5,c6,c7,c8,c9,c10,c11,c12,c13,c14,c15,c16]⟩:=by
 rw[cW]at hz;cases hz;kernel_rfl
theorem Hq.qy (cs:List Value)(hc:cs.length=17){kt:Value->T OB->Nat->Q}(h:Hp nx0 H0 (s::F) H nx)(hk:∀b H' nx',Hp nx0 H0 (s::(b,cs,57)::F) H' nx'->aO P pl X0 (kt (gG b 1 1) H' nx') nx0 H0 R):aO P pl X0 (ao (aq P H nx 24 1 (some [(0,.agg ⟨cs⟩)])) kt) nx0 H0 R:=
 match cs,hc with
 | [c0,c1,c2,c3,c4,c5,c6,c7,c8,c9,c10,c11,c12,c13,c14,c15,c16],_=>Hq.row gu dz cW rfl (Mw _ _ _ _ _ _ _ _ _ _ _ _ _ _ _ _ _ _ cW) h hk
theorem JC {n:Nat}(h:n<=1048576):bV P 57 17 n=true:=by
 have:bV P 57 17 n=(Nat.ble n 1048576&&true):=by kernel_rfl
 rw[this,Nat.ble_eq_true_of_le h];rfl
theorem a_.fR (x:a_):pa true 17 [x.v]:=λv hv=>by
 rw[List.mem_singleton]at hv;subst hv;rw[a_.br];exact⟨rfl,rfl,⟨_,rfl⟩⟩
theorem a_.len (x:a_):x.v.cells.toList.length=17:=(x.fR x.v (by simp)).1
theorem Hq.OO (A:List Bx){l:List a_}{x:a_}{sl:Value}{kt:Value->T OB->Nat->Q}(hl:l.length<=1000000)(hG:Gw true 17 57 (l.map a_.v) sl G)(h:Hp nx0 H0 (s::(b,x.v.cells.toList,57)::(A++(G++B))) H nx)
 (hk:∀sl' G' H' nx',Gw true 17 57 ((l++[x]).map a_.v) sl' G'->Hp nx0 H0 (s::(A++(G'++B))) H' nx'->aO P pl X0 (kt sl' H' nx') nx0 H0 R):aO P pl X0 (ao (ba P H nx [24,24] (some [sl,gG b 1 1])) kt) nx0 H0 R:=
 Hq.add A gu dz (JC (by rw[List.length_map];omega)) (by rw[List.length_map];omega) x.fR hG h λsl' G' H' nx' hG' h'=>hk sl' G' H' nx' (by rw[List.map_append];exact hG') h'
theorem aH.fz (x:aH):gB 0 [(3,41),(4,42),(5,24)] x.v x.v []:=by
 rw[aH.br];exact gB.of (eW.cons rfl (db.row fu) (eW.cons rfl (db.row er) (eW.cons rfl (db.row gu) (eW.nil))))
theorem bh.fz (x:bh):gB 0 [(3,42)] x.v x.v []:=by
 rw[bh.br];exact gB.of (eW.cons rfl (db.row er) (eW.nil))
theorem bo.fz (x:bo):gB 0 [(2,53)] x.v x.v []:=by
 rw[bo.br];exact gB.of (eW.cons rfl (db.row ez) (eW.nil))
theorem da.fz (x:da):gB 0 [(1,53)] x.v x.v []:=by
 rw[da.br];exact gB.of (eW.cons rfl (db.row ez) (eW.nil))
theorem Fn.fz (x:Fn):gB 0 [(1,42),(5,41),(6,42),(7,24)] x.v x.v []:=by
 rw[Fn.br];exact gB.of (eW.cons rfl (db.row er) (eW.cons rfl (db.row fu) (eW.cons rfl (db.row er) (eW.cons rfl (db.row gu) (eW.nil)))))
theorem a_.fz (x:a_):gB 0 [(4,42),(8,41),(9,42),(10,24),(11,48),(12,49),(14,50),(16,53)] x.v x.v []:=by
 rw[a_.br];exact gB.of (eW.cons rfl (db.row er) (eW.cons rfl (db.row fu) (eW.cons rfl (db.row er) (eW.cons rfl (db.row gu) (eW.cons rfl (db.row sh) (eW.cons rfl (db.row fY) (eW.cons rfl (db.row mm) (eW.cons rfl (db.row ez) (eW.nil)))))))))
theorem Gw.Mx {l:List aH}{sl:Value}(hG:Gw true 6 44 (l.map aH.v) sl G):db 1 41 sl (bn 6 (l.map aH.v)) G:=
 db.gw fu bG bZ rfl de hG (iN.id λv hv=>by obtain⟨x,_,rfl⟩:=List.mem_map.1 hv;exact x.fz) (λu hu=>by obtain⟨x,_,rfl⟩:=List.mem_map.1 hu;exact x.len) id
theorem Gw.JD {l:List bh}{sl:Value}(hG:Gw true 4 47 (l.map bh.v) sl G):db 1 42 sl (bn 4 (l.map bh.v)) G:=
 db.gw er cf cG rfl dM hG (iN.id λv hv=>by obtain⟨x,_,rfl⟩:=List.mem_map.1 hv;exact x.fz) (λu hu=>by obtain⟨x,_,rfl⟩:=List.mem_map.1 hu;exact x.len) id
theorem Gw.RZ {l:List bo}{sl:Value}(hG:Gw true 3 138 (l.map bo.v) sl G):db 1 53 sl (bn 3 (l.map bo.v)) G:=
 db.gw ez bR ft rfl ir hG (iN.id λv hv=>by obtain⟨x,_,rfl⟩:=List.mem_map.1 hv;exact x.fz) (λu hu=>by obtain⟨x,_,rfl⟩:=List.mem_map.1 hu;exact x.len) id
theorem Gw.UF {l:List da}{sl:Value}(hG:Gw true 2 55 (l.map da.v) sl G):db 1 50 sl (bn 2 (l.map da.v)) G:=
 db.gw mm il mn rfl zN hG (iN.id λv hv=>by obtain⟨x,_,rfl⟩:=List.mem_map.1 hv;exact x.fz) (λu hu=>by obtain⟨x,_,rfl⟩:=List.mem_map.1 hu;exact x.len) id
theorem Gw.Xu {l:List Fn}{sl:Value}(hG:Gw true 8 65 (l.map Fn.v) sl G):db 1 48 sl (bn 8 (l.map Fn.v)) G:=
 db.gw sh jl vF rfl Jp hG (iN.id λv hv=>by obtain⟨x,_,rfl⟩:=List.mem_map.1 hv;exact x.fz) (λu hu=>by obtain⟨x,_,rfl⟩:=List.mem_map.1 hu;exact x.len) id
theorem Gw.Xv {l:List a_}{sl:Value}(hG:Gw true 17 57 (l.map a_.v) sl G):db 1 24 sl (bn 17 (l.map a_.v)) G:=
 db.gw gu dz fw rfl jn hG (iN.id λv hv=>by obtain⟨x,_,rfl⟩:=List.mem_map.1 hv;exact x.fz) (λu hu=>by obtain⟨x,_,rfl⟩:=List.mem_map.1 hu;exact x.len) id
theorem d_ {cs:List Value}(h:cR H b cs 44)(hc:cs.length=6):ae P H 44 (some (ptr b))=some (.agg ⟨cs⟩):=by
 rw[bY h bZ bG (by omega),List.drop_zero,<- hc,List.take_length]
theorem iv {cs:List Value}(h:cR H b cs 47)(hc:cs.length=4):ae P H 47 (some (ptr b))=some (.agg ⟨cs⟩):=by
 rw[bY h cG cf (by omega),List.drop_zero,<- hc,List.take_length]
theorem gU {cs:List Value}(h:cR H b cs 138)(hc:cs.length=3):ae P H 138 (some (ptr b))=some (.agg ⟨cs⟩):=by
 rw[bY h ft bR (by omega),List.drop_zero,<- hc,List.take_length]
theorem EJ {cs:List Value}(h:cR H b cs 55)(hc:cs.length=2):ae P H 55 (some (ptr b))=some (.agg ⟨cs⟩):=by
 rw[bY h mn il (by omega),List.drop_zero,<- hc,List.take_length]
theorem OP {cs:List Value}(h:cR H b cs 52)(hc:cs.length=3):ae P H 52 (some (ptr b))=some (.agg ⟨cs⟩):=by
 rw[bY h AU zr (by omega),List.drop_zero,<- hc,List.take_length]
theorem OQ {cs:List Value}(h:cR H b cs 65)(hc:cs.length=8):ae P H 65 (some (ptr b))=some (.agg ⟨cs⟩):=by
 rw[bY h vF jl (by omega),List.drop_zero,<- hc,List.take_length]
theorem EK {cs:List Value}(h:cR H b cs 57)(hc:cs.length=17):ae P H 57 (some (ptr b))=some (.agg ⟨cs⟩):=by
 rw[bY h fw dz (by omega),List.drop_zero,<- hc,List.take_length]
theorem eH (k:Int)(a:Option Addr)(n c:Nat):az P 44 (some [(0,i64 k),(3,.slice a n c)])=some (.agg ⟨[i64 k,i64 0,aD [],.slice a n c,aC,aC]⟩):=bt bc (by kernel_rfl)
theorem nF (k:Int)(w:List UInt8)(a:Option Addr)(n c:Nat):az P 44 (some [(0,i64 k),(2,aD w),(3,.slice a n c)])=some (.agg ⟨[i64 k,i64 0,aD w,.slice a n c,aC,aC]⟩):=bt bc (by kernel_rfl)
theorem EL (k n:Int):az P 44 (some [(0,i64 k),(1,i64 n)])=some (.agg ⟨[i64 k,i64 n,aD [],aC,aC,aC]⟩):=bt bc (by kernel_rfl)
theorem lH (k:Int)(w:List UInt8):az P 44 (some [(0,i64 k),(2,aD w)])=some (.agg ⟨[i64 k,i64 0,aD w,aC,aC,aC]⟩):=bt bc (by kernel_rfl)
theorem lI (k:Int)(a:Option Addr)(n c:Nat):az P 47 (some [(0,i64 k),(3,.slice a n c)])=some (.agg ⟨[i64 k,i64 0,aD [],.slice a n c]⟩):=bt cS (by kernel_rfl)
theorem qz (k:Int)(w:List UInt8)(a:Option Addr)(n c:Nat):az P 47 (some [(0,i64 k),(2,aD w),(3,.slice a n c)])=some (.agg ⟨[i64 k,i64 0,aD w,.slice a n c]⟩):=bt cS (by kernel_rfl)
theorem qA (k n:Int):az P 47 (some [(0,i64 k),(1,i64 n)])=some (.agg ⟨[i64 k,i64 n,aD [],aC]⟩):=bt cS (by kernel_rfl)
theorem iO (k:Int)(w:List UInt8):az P 47 (some [(0,i64 k),(2,aD w)])=some (.agg ⟨[i64 k,i64 0,aD w,aC]⟩):=bt cS (by kernel_rfl)
theorem nG (k:Int)(w:List UInt8):az P 138 (some [(0,i64 k),(1,aD w)])=some (.agg ⟨[i64 k,aD w,aC]⟩):=bt cv (by kernel_rfl)
theorem nH (k:Int)(a:Option Addr)(n c:Nat):az P 138 (some [(0,i64 k),(2,.slice a n c)])=some (.agg ⟨[i64 k,aD [],.slice a n c]⟩):=bt cv (by kernel_rfl)
theorem nI (k:Int)(w:List UInt8)(a:Option Addr)(n c:Nat):az P 138 (some [(0,i64 k),(1,aD w),(2,.slice a n c)])=some (.agg ⟨[i64 k,aD w,.slice a n c]⟩):=bt cv (by kernel_rfl)
theorem EM (w:List UInt8):az P 55 (some [(0,aD w)])=some (.agg ⟨[aD w,aC]⟩):=bt fZ (by kernel_rfl)
theorem My (w:List UInt8)(a:Option Addr)(n c:Nat):az P 65 (some [(0,aD w),(1,.slice a n c)])=some (.agg ⟨[aD w,.slice a n c,i64 0,i64 0,aD [],aC,aC,aC]⟩):=bt eZ (by kernel_rfl)
theorem Mz (k:Int)(a:Option Addr)(n c:Nat):az P 57 (some [(0,i64 k),(3,.slice a n c)])=some (.agg ⟨[i64 k,i64 0,i64 0,aD [],aC,i64 0,i64 0,aD [],aC,aC,aC,.slice a n c,aC,aD [],aC,aD [],aC]⟩):=bt cW (by kernel_rfl)
theorem MA (k:Int)(p0 p1 p2 p3 c0 c1 c2 c3 c4 c5:Value):az P 57 (some [(0,i64 k),(1,.agg ⟨[p0,p1,p2,p3]⟩),(2,.agg ⟨[c0,c1,c2,c3,c4,c5]⟩)])=some (.agg ⟨[i64 k,p0,p1,p2,p3,c0,c1,c2,c3,c4,c5,aC,aC,aD [],aC,aD [],aC]⟩):=bt cW (by kernel_rfl)
theorem MB (k:Int)(c0 c1 c2 c3 c4 c5:Value):az P 57 (some [(0,i64 k),(2,.agg ⟨[c0,c1,c2,c3,c4,c5]⟩)])=some (.agg ⟨[i64 k,i64 0,i64 0,aD [],aC,c0,c1,c2,c3,c4,c5,aC,aC,aD [],aC,aD [],aC]⟩):=bt cW (by kernel_rfl)
theorem EN (k:Int)(c0 c1 c2:Value):az P 57 (some [(0,i64 k),(4,.agg ⟨[c0,c1,c2]⟩)])=some (.agg ⟨[i64 k,i64 0,i64 0,aD [],aC,i64 0,i64 0,aD [],aC,aC,aC,aC,c0,c1,c2,aD [],aC]⟩):=bt cW (by kernel_rfl)
theorem MC (k:Int)(c0 c1:Value):az P 57 (some [(0,i64 k),(5,.agg ⟨[c0,c1]⟩)])=some (.agg ⟨[i64 k,i64 0,i64 0,aD [],aC,i64 0,i64 0,aD [],aC,aC,aC,aC,aC,aD [],aC,c0,c1]⟩):=bt cW (by kernel_rfl)
end
section
variable {nx0 nx nx' bp k:Nat}{H0 H H':T OB}{F A B G G':List Bx}{s:Bx}{R:Go.Ev.Out->T OB->Nat->Prop}{b:Nat}{l:List Value}{e t:TypeId}{L:List Tok}
theorem eW.one {n:Nat}{p:Nat×TypeId}{cs:List Value}{v u:Value}(hc:cs[p.1]? = some v)(h1:db n p.2 v u G):eW n [p] cs (cs.set p.1 u) G:=by
 have:=eW.cons hc h1 (eW.nil (n:=n));rwa[List.append_nil]at this
theorem iN.one {n:Nat}{offs:List (Nat×TypeId)}{v u:Value}(h1:gB n offs v u G):iN n offs [v] [u] G:=by
 have:=iN.cons h1 (iN.nil (n:=n) (offs:=offs));rwa[List.append_nil]at this
theorem iN.two {n:Nat}{offs:List (Nat×TypeId)}{v u w:Value}(h1:gB n offs v u G)(h2:gB 0 offs w w []):iN n offs [v,w] [u,w] G:=by
 have:=iN.cons h1 (iN.one (h2.mono (Nat.zero_le n)));rwa[List.append_nil]at this
theorem iw (cs:List Value):cj [.agg ⟨cs⟩]=cs:=List.append_nil cs
theorem mA (cs ds:List Value):cj [.agg ⟨cs⟩,.agg ⟨ds⟩]=cs++ds:=by show cs++(ds++[])=_;rw[List.append_nil]
theorem Gw.j1 {a:Bool}{sz:Nat}{cs:List Value}(h:pa a sz [.agg ⟨cs⟩]):Gw a sz e [.agg ⟨cs⟩] (gG b 1 1) [(b,cs,e)]:=by
 have:=Gw.one (b:=b) (e:=e) (n:=1) h rfl (by decide);rwa[iw]at this
structure iW (n:Nat)(cs:List Value)(a:bo)(G:List Bx):Prop where
 len:cs.length=3
 one:cs.all aA=true
 fz:gB n [(2,53)] (.agg ⟨cs⟩) a.v G
theorem iW.of (a:bo):iW 0 a.cs a []:=⟨a.len,(a.fR a.v (by simp)).2.1,a.fz⟩
theorem iW.fR {n:Nat}{cs:List Value}{a:bo}(h:iW n cs a G):pa true 3 [.agg ⟨cs⟩]:=λv hv=>by
 rw[List.mem_singleton]at hv;subst hv;exact⟨h.len,h.one,⟨_,rfl⟩⟩
theorem iW.row {k:Int}{w:List UInt8}{sl:Value}{l:List bo}{n:Nat}(h:db n 53 sl (fx l) G)(ho:aA sl=true):iW n [i64 k,aD w,sl] (.mk k w l) G:=⟨rfl,by simp[ho],by
 rw[bo.br];exact gB.of (eW.one (p:=(2,53)) (cs:=[i64 k,aD w,sl]) rfl h)⟩
theorem cE {a:Bool}{sz:Nat}{vs:List Value}{sl:Value}(h:Gw a sz e vs sl G):aA sl=true:=by
 rcases h.2 with⟨_,rfl,_⟩ | ⟨b,c,rfl,_⟩<;>rfl
theorem iW.gw {k:Int}{w:List UInt8}{sl:Value}{l:List bo}(h:Gw true 3 138 (l.map bo.v) sl G):iW 1 [i64 k,aD w,sl] (.mk k w l) G:=iW.row h.RZ (cE h)
theorem iW.b1 {k:Int}{w:List UInt8}{n:Nat}{cs:List Value}{a:bo}(h:iW n cs a G):iW (n+1) [i64 k,aD w,gG b 1 1] (.mk k w [a]) ((b,cs,138)::G):=by
 have:=db.e8 (t:=53) (b:=b) ez bR ft rfl ir h.fR (.inr rfl) (by simp) (iN.one h.fz) (λu hu=>by rw[List.mem_singleton]at hu;subst hu;exact a.len);rw[iw cs]at this;exact iW.row this rfl
theorem iW.b2 {k:Int}{w:List UInt8}{n:Nat}{cs:List Value}{a c:bo}(h:iW n cs a G):iW (n+1) [i64 k,aD w,gG b 2 2] (.mk k w [a,c]) ((b,cs++c.cs,138)::G):=by
 have:=db.e8 (t:=53) (b:=b) (vs:=[.agg ⟨cs⟩,c.v]) ez bR ft rfl ir (λv hv=>by
  rcases List.mem_cons.1 hv with rfl | hv
  . exact h.fR _ (by simp)
  . exact c.fR v hv) (.inr rfl) (by simp) (iN.two h.fz c.fz) (λu hu=>by
  rcases List.mem_cons.1 hu with rfl | hu
  . exact a.len
  . rw[List.mem_singleton]at hu;subst hu;exact c.len)
 rw[show cj [Value.agg ⟨cs⟩,c.v]=cs++c.cs from mA cs c.cs]at this;exact iW.row this rfl
theorem iy {α β γ:Type}(x:PR α)(f:α->Nat->PR β)(g:β->Nat->PR γ):bd (bd x f) g=bd x λa k=>bd (f a k) g:=by
 cases x with
 | none=>rfl
 | some r=>cases r<;>rfl
theorem eU {α β:Type}(a:α)(k:Nat)(f:α->Nat->PR β):bd (yes a k) f=f a k:=rfl
def MD (L:List Tok)(T:Nat->PR bo)(a:bo)(k:Nat):PR bo:=if dN L k [45,62]=true then bd (T (k+1)) λb k=>yes (.mk 3 [] [a,b]) k else yes a k
theorem OR {T:Nat->PR bo}(hT:bL 147 L bo.v T)(hL:L.length<=100000){n:Nat}{cs z:List Value}{a:bo}{x0 x2:Nat}{o:iZ bo}(hv:iW n cs a G)(hn:n<=99990)(hz:z.length=3)(ho:MD L T a k=some o)
 (h:Hp nx0 H0 (cQ bp L k::(x2,cs,138)::(x0,z,138)::(G++F)) H nx):aO P pl X0 (aQ P pl (wO (ptr bp) (ptr x0) (ptr x2) H nx)) nx0 H0 (End nx0 H0 bp L F bo.v o):=by
 rw[D5];unfold MD at ho;refine Sq.take hL h (λhi H1 aE h1=> ?_) (λhi H1 aE h1=> ?_)
 . rw[if_pos hi]at ho;simp only[af,gU (h1.at_ 1 rfl) hv.len];refine Sq.call hT rfl h1 ho λc k' H2 nx2 _ ho2 h2=> ?_;simp only[af,gU (h2.at_ 1 rfl) hv.len,bj];refine Hq.EH cs c.cs hv.len c.len h2 λx H3 nx3 h3=> ?_;simp only[af,nH];have h4:Hp nx0 H0 (cQ bp L k'::(x0,z,138)::((x,cs++c.cs,138)::G++F)) H3 nx3:=(Hp.mv [_,_] h3).sub (by simp);exact Hq.fin h4 bR ft ir hz rfl rfl (iW.b2 hv).fz (by omega) λH5 nx5 h5=>End.ret ho2 rfl h5
 . rw[if_neg (by rw[hi];simp)]at ho;simp only[af,gU (h1.at_ 1 rfl) hv.len];have h4:Hp nx0 H0 (cQ bp L k::(x0,z,138)::(G++F)) H1 aE:=(Hp.mv [_] h1).sub (by simp);exact Hq.fin h4 bR ft ir hz hv.len hv.one hv.fz (by omega) λH5 nx5 h5=>End.ret ho rfl h5
theorem OS {TT:Nat->PR bo}(hT:bL 147 L bo.v TT)(hL:L.length<=100000):∀(m:Nat),(∀j,j<m->bL 175 L bo.v (ps L j).post)->∀(l:List bo) (k:Nat) (sl:Value) (G:List Bx) (o:iZ bo) (z:List Value) (x0 x2 nx:Nat) (H:T OB),l.length+m<=90010->Gw true 3 138 (l.map bo.v) sl G->z.length=3->
 bd ((ps L m).dA l k) (λl k=>MD L TT (.mk 4 [] l) k)=some o->Hp nx0 H0 (cQ bp L k::(x2,[i64 4,aD [],sl],138)::(x0,z,138)::(G++F)) H nx->
 aO P pl X0 (.jump (p7 (ptr bp) (ptr x0) (ptr x2) H nx)) nx0 H0 (End nx0 H0 bp L F bo.v o)
 | 0,_,l,k,sl,G,o,z,x0,x2,nx,H,hm,hG,hz,ho,h=>by cases ho
 | m+1,hp,l,k,sl,G,o,z,x0,x2,nx,H,hm,hG,hz,ho,h=>by
   have ho:bd (l5 L (ps L m) l k) (λl k=>MD L TT (.mk 4 [] l) k)=some o:=ho;unfold l5 at ho;refine Wq.jmp (Ln ..) (λ_=>rfl) ?_;refine Sq.take hL h (λhi H1 aE h1=> ?_) (λhi H1 aE h1=> ?_)
   . rw[if_pos hi,iy]at ho;simp only[af,aw (off:=2) (u:=sl) (h1.at_ 1 rfl) vE rfl];refine Sq.call (hp m (Nat.lt_succ_self m)) rfl h1 ho λc k' H2 nx2 _ ho2 h2=> ?_;simp only[af,aw (off:=2) (u:=sl) (h2.at_ 1 rfl) vE rfl,bj];refine Hq.e_ c.cs c.len h2 λx H3 nx3 h3=> ?_;simp only[af,aw (off:=2) (u:=sl) (h3.at_ 2 rfl) vE rfl,bj];refine Hq.zU [_,_] (x:=c) (by omega) hG h3 λsl' G' H4 nx4 hG' h4=> ?_;refine Hq.put [_] h4 HG (by rcases hG'.2 with⟨_,rfl,_⟩ | ⟨b,c,rfl,_⟩<;>rfl) (cE hG') (by simp) rfl λH5 h5=> ?_;exact OS hT hL m (λj hj=>hp j (by omega)) (l++[c]) k' sl' G' o z x0 x2 nx4 H5 (by rw[List.length_append];simp;omega) hG' hz ho2 h5
   . rw[if_neg (by rw[hi];simp)]at ho;have:=OR hT hL (iW.gw (k:=4) (w:=[]) hG) (by omega) hz ho h1;rw[D5]at this;exact this
theorem F9 (a b:Value):av (some (.tuple ⟨[a,b]⟩)) 0=some a:=rfl
theorem F_ (a b:Value):av (some (.tuple ⟨[a,b]⟩)) 1=some b:=rfl
theorem Hq.set (A:List Bx){sz:Nat}{cs:List Value}{kt:Value->Go.Ev.T OB->Nat->Q}(h:Hp nx0 H0 (A++(b,l,e)::B) H nx)(hs:bq P t=some sz)(hl:l.length=sz)(hc:cs.length=sz)(h1:cs.all aA=true)
 (hk:∀H',Hp nx0 H0 (A++(b,cs,e)::B) H' nx->aO P pl X0 (kt undef H' nx) nx0 H0 R):aO P pl X0 (ao (ah P H nx t (some (ptr b)) (some (.agg ⟨cs⟩))) kt) nx0 H0 R:=
 Hq.store A h hs (by omega) hc h1 λH' h'=>hk H' (by
  rw[show ij l (Value.agg ⟨cs⟩).cells.toList 0=cs from uJ (by show cs.length=_;omega)]at h';exact h')
theorem Hp.swap' {x y:Bx}(h:Hp nx0 H0 (s::x::y::F) H nx):Hp nx0 H0 (s::y::x::F) H nx:=h.perm (List.Perm.cons _ (List.Perm.swap _ _ _))
theorem Hp.nJ {x y z:Bx}(h:Hp nx0 H0 (s::x::y::z::F) H nx):Hp nx0 H0 (s::y::z::x::F) H nx:=h.perm (List.Perm.cons _ ((List.Perm.swap _ _ _).trans (List.Perm.cons _ (List.Perm.swap _ _ _))))
theorem UG (hL:L.length<=100000){n:Nat}(hn:n<=90000)(hpost:∀j,j<=n->bL 175 L bo.v (ps L j).post)(htyp:bL 147 L bo.v (ps L n).dT):bL 147 L bo.v (ps L (n+1)).dT:=by
 intro nx0 nx H0 H bp F k o ho h;have ho:xu L (ps L n) k=some o:=ho;unfold xu pb at ho;rw[iy]at ho;rw[WA];refine Hq.alloc cv h λx0 H1 aE h1=> ?_;refine Sq.call (hpost n (Nat.le_refl n)) rfl h1 ho λa k' H2 nx2 _ ho h2=> ?_;have ha:=iW.of a;refine Hq.alloc cv h2 λx2 H3 nx3 h3=> ?_;refine Hq.set [_] h3 bR rfl ha.len ha.one λH4 h4=> ?_
 refine Sq.is h4 λH5 nx5 h5=> ?_;cases hi:dN L k' [42]with
 | true=>
   rw[hi,if_pos rfl,iy]at ho;simp only[af,gU (h5.at_ 1 rfl) a.len];refine Hq.e_ a.cs a.len h5 λx H6 nx6 h6=> ?_;simp only[af,nH];refine Hq.set [_,_] h6 bR ha.len rfl rfl λH7 h7=> ?_
   exact OS htyp hL (n+1) (λj hj=>hpost j (by omega)) [a] k' (gG x 1 1) [(x,a.cs,138)] o _ x0 x2 nx6 H7 (show 1+(n+1)<=90010 by omega) (Gw.j1 a.fR) rfl ho (Hp.nJ h7)
 | false=>
   rw[hi,if_neg (by simp),eU]at ho;simp only[af];exact Wq.jump (λ_=>rfl) (OR htyp hL ha (by omega) rfl ho h5)
theorem JE (hL:L.length<=100000):∀(m:Nat) (a:bo) (k n:Nat) (cs z:List Value) (G:List Bx) (o:iZ bo) (x0 x1 nx:Nat) (H:Go.Ev.T OB),n+m<=90010->iW n cs a G->z.length=3->(ps L m).cP a k=some o->Hp nx0 H0 (cQ bp L k::(x1,cs,138)::(x0,z,138)::(G++F)) H nx->
 aO P pl X0 (aQ P pl (ly (ptr bp) (ptr x0) (ptr x1) H nx)) nx0 H0 (End nx0 H0 bp L F bo.v o)
 | 0,a,k,n,cs,z,G,o,x0,x1,nx,H,hm,hv,hz,ho,h=>by cases ho
 | m+1,a,k,n,cs,z,G,o,x0,x1,nx,H,hm,hv,hz,ho,h=>by
   have ho:ka L (ps L m) a k=some o:=ho;unfold ka at ho;rw[wU];refine Sq.Rs hL h (λhi H1 aE h1=> ?_) (λhi H1 aE h1=> ?_)
   . rw[if_pos hi]at ho;simp only[af,F9,F_];refine Wq.jmp (D9 ..) (λ_=>rfl) ?_;simp only[af,gU (h1.at_ 1 rfl) hv.len];refine Hq.e_ cs hv.len h1 λx H2 nx2 h2=> ?_;simp only[af,nI];refine Hq.set [_,_] h2 bR hv.len rfl rfl λH3 h3=> ?_
     have:=JE hL m (.mk 2 (tk L k).s [a]) (k+1) (n+1) _ z ((x,cs,138)::G) o x0 x1 nx2 H3 (by omega) (iW.b1 (k:=2) (w:=(tk L k).s) hv) hz ho (Hp.nJ h3);rw[wU]at this;exact this
   . rw[if_neg (by rw[hi];simp)]at ho;simp only[af,F9,F_];refine Wq.jmp (D9 ..) (λ_=>rfl) ?_;simp only[af,gU (h1.at_ 1 rfl) hv.len];have h4:Hp nx0 H0 (cQ bp L k::(x0,z,138)::(G++F)) H1 aE:=(Hp.mv [_] h1).sub (by simp);exact Hq.fin h4 bR ft ir hz hv.len hv.one hv.fz (by omega) λH5 nx5 h5=>End.ret ho rfl h5
theorem By (hL:L.length<=100000){m:Nat}{a:bo}{k n:Nat}{cs z:List Value}{G:List Bx}{o:iZ bo}{x0 x1 nx:Nat}{H:Go.Ev.T OB}(hm:n+m<=90010)(hv:iW n cs a G)(hz:z.length=3)(ho:(ps L m).cP a k=some o)(h:Hp nx0 H0 (cQ bp L k::(x1,cs,138)::(x0,z,138)::(G++F)) H nx):
 aO P pl X0 (.jump (ly (ptr bp) (ptr x0) (ptr x1) H nx)) nx0 H0 (End nx0 H0 bp L F bo.v o):=Wq.jump (λ_=>rfl) (JE hL m a k n cs z G o x0 x1 nx H hm hv hz ho h)
theorem OT (hL:L.length<=100000){M:Nat}(hM:M<=90005):∀(m:Nat),(∀j,j<m->bL 147 L bo.v (ps L j).dT)->∀(l:List bo) (k:Nat) (sl:Value) (G:List Bx) (o:iZ bo) (y z:List Value) (x0 x1 nx:Nat) (H:Go.Ev.T OB),l.length+m<=90010->Gw true 3 138 (l.map bo.v) sl G->y.length=3->z.length=3->
 bd ((ps L m).mC l k) (λl k=>aZ L [41] k λk=>bd (if iU L k=true then yes (bo.mk 2 (tk L k).s l) (k+1)else kS L k) λa k=>(ps L M).cP a k)=some o->Hp nx0 H0 (cQ bp L k::(x1,y,138)::(x0,z,138)::(G++F)) H nx->
 aO P pl X0 (.jump (qd (ptr bp) (ptr x0) (ptr x1) sl H nx)) nx0 H0 (End nx0 H0 bp L F bo.v o)
 | 0,_,l,k,sl,G,o,y,z,x0,x1,nx,H,hm,hG,hy,hz,ho,h=>by cases ho
 | m+1,hp,l,k,sl,G,o,y,z,x0,x1,nx,H,hm,hG,hy,hz,ho,h=>by
   have ho:bd (oG L (ps L m) l k) (λl k=>aZ L [41] k λk=>bd (if iU L k=true then yes (bo.mk 2 (tk L k).s l) (k+1)else kS L k) λa k=>(ps L M).cP a k)=some o:=ho;unfold oG at ho;refine Wq.jmp (Lu ..) (λ_=>rfl) ?_;refine Sq.take hL h (λhi H1 aE h1=> ?_) (λhi H1 aE h1=> ?_)
   . rw[if_pos hi,iy]at ho;simp only[af];refine Sq.call (hp m (Nat.lt_succ_self m)) rfl h1 ho λc k' H2 nx2 _ ho2 h2=> ?_;refine Hq.e_ c.cs c.len h2 λx H3 nx3 h3=> ?_;refine Hq.zU [_,_] (x:=c) (by omega) hG h3 λsl' G' H4 nx4 hG' h4=> ?_;exact OT hL hM m (λj hj=>hp j (by omega)) (l++[c]) k' sl' G' o y z x0 x1 nx4 H4 (by rw[List.length_append];simp;omega) hG' hy hz ho2 h4
   . rw[if_neg (by rw[hi];simp),eU]at ho;simp only[af];refine Sq.kh hL h1 ho λH2 nx2 _ ho h2=> ?_;refine Sq.Rs hL h2 (λhi H3 nx3 h3=> ?_) (λhi H3 nx3 h3=> ?_)
     . rw[if_pos hi,eU]at ho;simp only[af,F9,F_];refine Wq.jmp (Lv ..) (λ_=>rfl) ?_;have hb:az P 138 (some [(0,i64 2),(1,aD (tk L (k+1)).s),(2,sl)])=some (.agg ⟨[i64 2,aD (tk L (k+1)).s,sl]⟩):=by
        rcases hG.2 with⟨_,rfl,_⟩ | ⟨b,c,rfl,_⟩<;>exact nI ..
       simp only[af,hb];refine Hq.set [_] h3 bR hy rfl (by simp[cE hG]) λH4 h4=> ?_
       have:=JE hL M _ _ 1 _ z G o x0 x1 nx3 H4 (by omega) (iW.gw (k:=2) (w:=(tk L (k+1)).s) hG) hz ho h4;rw[wU]at this;exact this
     . rw[if_neg (by rw[hi];simp)]at ho;simp only[af,F9,F_];exact Sq.fail (α:=bo) (β:=bo) (o:=o) (by cases ho;rfl) h3
theorem UH (hL:L.length<=100000){n:Nat}(hn:n<=90000)(htyp:∀j,j<=n->bL 147 L bo.v (ps L j).dT):bL 175 L bo.v (ps L (n+1)).post:=by
 intro nx0 nx H0 H bp F k o ho h;have ho:np L (ps L n) k=some o:=ho;unfold np pc at ho;have hnm:∀a k,ka L (ps L n) a k=(ps L (n+1)).cP a k:=λ_ _=>rfl;rw[WR];refine Hq.alloc cv h λx0 H1 aE h1=> ?_;refine Hq.alloc cv h1 λx1 H2 nx2 h2=> ?_;refine Sq.now h2 λH3 nx3 h3=> ?_;refine Sq.Ew h3 λH4 nx4 h4=> ?_;simp only[af];refine Wq.ite (λhi=> ?_) (λhi=> ?_)
 . rw[if_pos hi,eU]at ho;simp only[af,pk h4,dE hL (gb (show(tk L k).k≠0 by omega))];refine dU h4 λH5 h5=> ?_;simp only[af,nG];refine Hq.set [_] h5 bR rfl rfl rfl λH6 h6=> ?_
   exact By hL (m:=n+1) (n:=0) (G:=[]) (by omega) (iW.row (k:=1) (w:=(tk L k).s) (l:=[]) (db.nil ez bR) rfl) rfl ho h6
 . rw[if_neg hi]at ho;refine Sq.Rs hL h4 (λht H5 nx5 h5=> ?_) (λht H5 nx5 h5=> ?_)
   . rw[if_pos ht,eU]at ho;simp only[af,F9,F_,nG];refine Hq.set [_] h5 bR rfl rfl rfl λH6 h6=> ?_
     exact By hL (m:=n+1) (n:=0) (G:=[]) (by omega) (iW.row (k:=2) (w:=(tk L k).s) (l:=[]) (db.nil ez bR) rfl) rfl ho h6
   . rw[if_neg (by rw[ht];simp)]at ho;simp only[af,F9,F_];have ho:aZ L [40] k (λk=>bd (bd ((ps L n).dT k) λa k=>if dN L k [44]=true then bd (oG L (ps L n) [a] k) λl k=>aZ L [41] k λk=>if iU L k=true then yes (bo.mk 2 (tk L k).s l) (k+1)else kS L k else aZ L [41] k λk=>yes a k) λa k=>ka L (ps L n) a k)=some o:=by
      rw[<- ho];unfold aZ;split<;>rfl
     refine Sq.kh hL h5 ho λH6 nx6 _ ho h6=> ?_;rw[iy]at ho;refine Sq.call (htyp n (Nat.le_refl n)) rfl h6 ho λa k' H7 nx7 _ ho h7=> ?_;refine Hq.set [_] h7 bR rfl a.len (iW.of a).one λH8 h8=> ?_
     refine Sq.is h8 λH9 nx9 h9=> ?_;cases hc:dN L k' [44]with
     | true=>
       rw[hc,if_pos rfl,iy]at ho;simp only[af,gU (h9.at_ 1 rfl) a.len];refine Hq.e_ a.cs a.len h9 λx H10 nx10 h10=> ?_;refine OT hL (M:=n+1) (by omega) (n+1) (λj hj=>htyp j (by omega)) [a] k' (gG x 1 1) [(x,a.cs,138)] o _ _ x0 x1 nx10 H10 (show 1+(n+1)<=90010 by omega) (Gw.j1 a.fR) a.len rfl ?_ (Hp.nJ h10);rw[<- ho];show bd (oG L (ps L n) [a] k') _=bd (oG L (ps L n) [a] k') _;congr 1;funext l k;unfold aZ;split<;>rfl
     | false=>
       rw[hc,if_neg (by simp)]at ho;simp only[af];have ho:aZ L [41] k' (λk=>(ps L (n+1)).cP a k)=some o:=by
        rw[<- ho];unfold aZ;split<;>rfl
       refine Sq.kh hL h9 ho λH10 nx10 _ ho h10=> ?_;exact By hL (m:=n+1) (n:=0) (G:=[]) (by omega) (iW.of a) rfl ho h10
theorem UI (hL:L.length<=100000){p:PS}(htyp:bL 147 L bo.v p.dT):bL 104 L da.v (xw L p):=by
 intro nx0 nx H0 H bp F k o ho h;unfold xw at ho;rw[V_];refine Hq.alloc fZ h λx0 H1 aE h1=> ?_;refine Sq.word (by decide) hL h1 ho λH2 nx2 _ ho h2=> ?_;simp only[af,EM];refine Hq.alloc fZ h2 λx1 H3 nx3 h3=> ?_;refine Hq.set [_] h3 il rfl rfl rfl λH4 h4=> ?_
 refine Sq.take hL h4 (λhi H5 nx5 h5=> ?_) (λhi H5 nx5 h5=> ?_)
 . rw[if_pos hi]at ho;simp only[af];refine Sq.call htyp rfl h5 ho λa k' H6 nx6 _ ho h6=> ?_;refine Hq.e_ a.cs a.len h6 λx H7 nx7 h7=> ?_;refine Hq.put [_,_] h7 HG rfl rfl (by simp) rfl λH8 h8=> ?_;refine Wq.jmp (DY ..) (λ_=>rfl) ?_;simp only[af,EJ (h8.at_ 2 rfl) rfl];have h9:Hp nx0 H0 (cQ bp L k'::(x0,[aD [],aC],55)::([(x,a.cs,138)]++F)) H8 nx7:=(Hp.mv [_,_] h8).sub (by simp);refine Hq.fin h9 il mn zN rfl rfl rfl (gB.of (eW.one (p:=(1,53)) rfl (Gw.RZ (l:=[a]) (Gw.j1 a.fR)))) (by omega) λH10 nx10 h10=>End.ret ho rfl h10
 . rw[if_neg (by rw[hi];simp)]at ho;simp only[af];refine Wq.jmp (DY ..) (λ_=>rfl) ?_;simp only[af,EJ (h5.at_ 1 rfl) rfl];have h9:Hp nx0 H0 (cQ bp L (k+1)::(x0,[aD [],aC],55)::([]++F)) H5 nx5:=(Hp.mv [_] h5).sub (by simp);refine Hq.fin h9 il mn zN rfl rfl rfl (gB.of (eW.one (p:=(1,53)) rfl (db.nil ez bR))) (by omega) λH10 nx10 h10=>End.ret ho rfl h10
end
section
variable {nx0 nx nx' bp k:Nat}{H0 H H':T OB}{F A B G G':List Bx}{s:Bx}{R:Go.Ev.Out->T OB->Nat->Prop}{b:Nat}{l:List Value}{e t:TypeId}{L:List Tok}
structure fE (n:Nat)(cs:List Value)(a:bh)(G:List Bx):Prop where
 len:cs.length=4
 one:cs.all aA=true
 fz:gB n [(3,42)] (.agg ⟨cs⟩) a.v G
theorem fE.of (a:bh):fE 0 a.cs a []:=⟨a.len,(a.fR a.v (by simp)).2.1,a.fz⟩
theorem fE.fR {n:Nat}{cs:List Value}{a:bh}(h:fE n cs a G):pa true 4 [.agg ⟨cs⟩]:=λv hv=>by
 rw[List.mem_singleton]at hv;subst hv;exact⟨h.len,h.one,⟨_,rfl⟩⟩
theorem fE.row {k i:Int}{w:List UInt8}{sl:Value}{l:List bh}{n:Nat}(h:db n 42 sl (cD l) G)(ho:aA sl=true):fE n [i64 k,i64 i,aD w,sl] (.mk k i w l) G:=⟨rfl,by simp[ho],by
 rw[bh.br];exact gB.of (eW.one (p:=(3,42)) (cs:=[i64 k,i64 i,aD w,sl]) rfl h)⟩
theorem fE.nil {k i:Int}{w:List UInt8}:fE 0 [i64 k,i64 i,aD w,aC] (.mk k i w []) []:=fE.row (l:=[]) (db.nil er cf) rfl
theorem fE.gw {k i:Int}{w:List UInt8}{sl:Value}{l:List bh}(h:Gw true 4 47 (l.map bh.v) sl G):fE 1 [i64 k,i64 i,aD w,sl] (.mk k i w l) G:=fE.row h.JD (cE h)
theorem fE.b1 {k i:Int}{w:List UInt8}{n:Nat}{cs:List Value}{a:bh}(h:fE n cs a G):fE (n+1) [i64 k,i64 i,aD w,gG b 1 1] (.mk k i w [a]) ((b,cs,47)::G):=by
 have:=db.e8 (t:=42) (b:=b) er cf cG rfl dM h.fR (.inr rfl) (by simp) (iN.one h.fz) (λu hu=>by rw[List.mem_singleton]at hu;subst hu;exact a.len);rw[iw cs]at this;exact fE.row this rfl
theorem fE.b2 {k i:Int}{w:List UInt8}{n:Nat}{cs:List Value}{a c:bh}(h:fE n cs a G):fE (n+1) [i64 k,i64 i,aD w,gG b 2 2] (.mk k i w [a,c]) ((b,cs++c.cs,47)::G):=by
 have:=db.e8 (t:=42) (b:=b) (vs:=[.agg ⟨cs⟩,c.v]) er cf cG rfl dM (λv hv=>by
  rcases List.mem_cons.1 hv with rfl | hv
  . exact h.fR _ (by simp)
  . exact c.fR v hv) (.inr rfl) (by simp) (iN.two h.fz c.fz) (λu hu=>by
  rcases List.mem_cons.1 hu with rfl | hu
  . exact a.len
  . rw[List.mem_singleton]at hu;subst hu;exact c.len)
 rw[show cj [Value.agg ⟨cs⟩,c.v]=cs++c.cs from mA cs c.cs]at this;exact fE.row this rfl
def JF (L:List Tok)(TT:Nat->PR bh)(a:bh)(k:Nat):PR bh:=if dN L k [58,58]=true then bd (TT (k+1)) λb k=>yes (uK a b) k else yes a k
theorem JG {TT:Nat->PR bh}(hT:bL 148 L bh.v TT)(hL:L.length<=100000){n:Nat}{cs z:List Value}{a:bh}{x0 x1:Nat}{o:iZ bh}(hv:fE n cs a G)(hn:n<=99990)(hz:z.length=4)(ho:JF L TT a k=some o)
 (h:Hp nx0 H0 (cQ bp L k::(x1,cs,47)::(x0,z,47)::(G++F)) H nx):aO P pl X0 (.jump (nf (ptr bp) (ptr x0) (ptr x1) H nx)) nx0 H0 (End nx0 H0 bp L F bh.v o):=by
 refine Wq.jmp (Lo ..) (λ_=>rfl) ?_;unfold JF at ho;refine Sq.take hL h (λhi H1 aE h1=> ?_) (λhi H1 aE h1=> ?_)
 . rw[if_pos hi]at ho;simp only[af,iv (h1.at_ 1 rfl) hv.len];refine Sq.call hT rfl h1 ho λc k' H2 nx2 _ ho2 h2=> ?_;simp only[af,iv (h2.at_ 1 rfl) hv.len,bj];refine Hq.qx cs c.cs hv.len c.len h2 λx H3 nx3 h3=> ?_;simp only[af,lI];refine Hq.ed [i64 5,i64 0,aD [],gG x 2 2] rfl h3 λy H4 nx4 h4=> ?_;simp only[af,qz];have h5:Hp nx0 H0 (cQ bp L k'::(x0,z,47)::((y,[i64 5,i64 0,aD [],gG x 2 2],47)::(x,cs++c.cs,47)::G++F)) H4 nx4:=(Hp.mv [_,_,_] h4).sub (by simp);exact Hq.fin h5 cf cG dM hz rfl rfl (fE.b1 (fE.b2 hv)).fz (by omega) λH5 nx5 h5=>End.ret ho2 rfl h5
 . rw[if_neg (by rw[hi];simp)]at ho;simp only[af,iv (h1.at_ 1 rfl) hv.len];have h4:Hp nx0 H0 (cQ bp L k::(x0,z,47)::(G++F)) H1 aE:=(Hp.mv [_] h1).sub (by simp);exact Hq.fin h4 cf cG dM hz hv.len hv.one hv.fz (by omega) λH5 nx5 h5=>End.ret ho rfl h5
theorem UJ (hL:L.length<=100000){p:PS}(hpatom:bL 177 L bh.v p.bw)(hpat:bL 148 L bh.v p.pat):bL 148 L bh.v (xr L p):=by
 intro nx0 nx H0 H bp F k o ho h;unfold xr zO at ho;have hc:∀(a:bh) (k:Nat),(if dN L k [58,58]=true then bd (p.pat (k+1)) λb k=>yes (uK a b) k else yes a k)=JF L p.pat a k:=λ_ _=>rfl;simp only[hc]at ho;rw[WB];refine Hq.alloc cS h λx0 H1 aE h1=> ?_;refine Hq.alloc cS h1 λx1 H2 nx2 h2=> ?_;refine Sq.now h2 λH3 nx3 h3=> ?_;refine Sq.Ew h3 λH4 nx4 h4=> ?_;simp only[af];refine Wq.ite (λhi=> ?_) (λhi=> ?_)
 . rw[if_pos hi]at ho;simp only[af,pk h4,dE hL (gb (show(tk L k).k≠0 by omega))];refine dU h4 λH5 h5=> ?_;simp only[af,iO];refine Hq.set [_] h5 cf rfl rfl rfl λH6 h6=> ?_
   refine Sq.Jq h6 λH7 nx7 h7=> ?_;cases hb:kT L (k+1)with
   | true=>
     rw[hb,if_pos rfl,iy]at ho;simp only[eU]at ho;simp only[af];refine Sq.call hpatom rfl h7 ho λa k' H8 nx8 _ ho h8=> ?_;refine Hq.ed a.cs a.len h8 λx H9 nx9 h9=> ?_;refine Hq.put [_,_] h9 o7 rfl rfl (by simp) rfl λH10 h10=> ?_;exact JG (n:=1) (G:=[(x,a.cs,47)]) hpat hL (fE.b1 (fE.of a)) (by omega) rfl ho (Hp.nJ h10)
   | false=>
     rw[hb,if_neg (by simp),eU]at ho;simp only[af];exact JG (n:=0) (G:=[]) hpat hL fE.nil (by omega) rfl ho h7
 . rw[if_neg hi]at ho;refine Sq.call hpatom rfl h4 ho λa k' H5 nx5 _ ho h5=> ?_;refine Hq.set [_] h5 cf rfl a.len (fE.of a).one λH6 h6=> ?_
   exact JG (n:=0) (G:=[]) hpat hL (fE.of a) (by omega) rfl ho h6
theorem OU (n:Int):eV P .neg (some (i64 n))=some (i64 (IntKind.i64.wrap (-n))):=by rw[w9,Int.zero_sub]
theorem OV (hL:L.length<=100000):∀(m:Nat),(∀j,j<m->bL 148 L bh.v (ps L j).pat)->∀(l:List bh) (k:Nat) (sl:Value) (G:List Bx) (o:iZ bh) (z:List Value) (x0 x1 nx:Nat) (H:Go.Ev.T OB),l.length+m<=90010->Gw true 4 47 (l.map bh.v) sl G->z.length=4->
 bd ((ps L m).fQ l k) (λl k=>aZ L [41] k λk=>yes (.mk 5 0 [] l) k)=some o->Hp nx0 H0 (cQ bp L k::(x1,[i64 5,i64 0,aD [],sl],47)::(x0,z,47)::(G++F)) H nx->
 aO P pl X0 (.jump (qf (ptr bp) (ptr x0) (ptr x1) H nx)) nx0 H0 (End nx0 H0 bp L F bh.v o)
 | 0,_,l,k,sl,G,o,z,x0,x1,nx,H,hm,hG,hz,ho,h=>by cases ho
 | m+1,hp,l,k,sl,G,o,z,x0,x1,nx,H,hm,hG,hz,ho,h=>by
   have ho:bd (l4 L (ps L m) l k) (λl k=>aZ L [41] k λk=>yes (.mk 5 0 [] l) k)=some o:=ho;unfold l4 at ho;refine Wq.jmp (Lx ..) (λ_=>rfl) ?_;refine Sq.take hL h (λhi H1 aE h1=> ?_) (λhi H1 aE h1=> ?_)
   . rw[if_pos hi,iy]at ho;simp only[af,aw (off:=3) (u:=sl) (h1.at_ 1 rfl) gv rfl];refine Sq.call (hp m (Nat.lt_succ_self m)) rfl h1 ho λc k' H2 nx2 _ ho2 h2=> ?_;simp only[af,aw (off:=3) (u:=sl) (h2.at_ 1 rfl) gv rfl,bj];refine Hq.ed c.cs c.len h2 λx H3 nx3 h3=> ?_;simp only[af,aw (off:=3) (u:=sl) (h3.at_ 2 rfl) gv rfl,bj];refine Hq.uN [_,_] (x:=c) (by omega) hG h3 λsl' G' H4 nx4 hG' h4=> ?_;refine Hq.put [_] h4 o7 (by rcases hG'.2 with⟨_,rfl,_⟩ | ⟨b,c,rfl,_⟩<;>rfl) (cE hG') (by simp) rfl λH5 h5=> ?_;exact OV hL m (λj hj=>hp j (by omega)) (l++[c]) k' sl' G' o z x0 x1 nx4 H5 (by rw[List.length_append];simp;omega) hG' hz ho2 h5
   . rw[if_neg (by rw[hi];simp),eU]at ho;simp only[af];refine Sq.kh hL h1 ho λH2 nx2 _ ho h2=> ?_;have hv:fE 1 [i64 5,i64 0,aD [],sl] (.mk 5 0 [] l) G:=fE.gw hG;simp only[af,iv (h2.at_ 1 rfl) hv.len];have h4:Hp nx0 H0 (cQ bp L (k+1)::(x0,z,47)::(G++F)) H2 nx2:=(Hp.mv [_] h2).sub (by simp);exact Hq.fin h4 cf cG dM hz hv.len hv.one hv.fz (by omega) λH5 nx5 h5=>End.ret ho rfl h5
theorem UK (hL:L.length<=100000){n:Nat}(hn:n<=90000)(hpat:∀j,j<=n->bL 148 L bh.v (ps L j).pat):bL 177 L bh.v (ps L (n+1)).bw:=by
 intro nx0 nx H0 H bp F k o ho h;have ho:jX L (ps L n) k=some o:=ho;unfold jX at ho;rw[WT];refine Hq.alloc cS h λx0 H1 aE h1=> ?_;refine Sq.now h1 λH2 nx2 h2=> ?_;refine Sq.Ew h2 λH3 nx3 h3=> ?_;simp only[af];refine Wq.ite (λhi=> ?_) (λhi=> ?_)
 . rw[if_pos hi]at ho;simp only[af,pk h3,dE hL (gb (show(tk L k).k≠0 by omega))];refine dU h3 λH4 h4=> ?_;simp only[af,qA];exact Hq.fin (G:=[]) h4 cf cG dM rfl rfl rfl fE.nil.fz (by omega) λH5 nx5 h5=>End.ret ho rfl h5
 rw[if_neg hi]at ho;refine Wq.ite (λhi=> ?_) (λhi=> ?_)
 . rw[if_pos hi]at ho;simp only[af,pk h3,dE hL (gb (show(tk L k).k≠0 by omega))];refine dU h3 λH4 h4=> ?_;simp only[af,iO];exact Hq.fin (G:=[]) h4 cf cG dM rfl rfl rfl fE.nil.fz (by omega) λH5 nx5 h5=>End.ret ho rfl h5
 rw[if_neg hi]at ho;refine Wq.ite (λhi=> ?_) (λhi=> ?_)
 . rw[if_pos hi]at ho;simp only[af,pk h3,dE hL (gb (show(tk L k).k≠0 by omega))];refine dU h3 λH4 h4=> ?_;simp only[af,iO];exact Hq.fin (G:=[]) h4 cf cG dM rfl rfl rfl fE.nil.fz (by omega) λH5 nx5 h5=>End.ret ho rfl h5
 rw[if_neg hi]at ho;refine Wq.ite (λhi=> ?_) (λhi=> ?_)
 . rw[if_pos hi]at ho;simp only[af,pk h3,dE hL (gb (show(tk L k).k≠0 by omega))];refine dU h3 λH4 h4=> ?_;simp only[af,iO];exact Hq.fin (G:=[]) h4 cf cG dM rfl rfl rfl fE.nil.fz (by omega) λH5 nx5 h5=>End.ret ho rfl h5
 rw[if_neg hi]at ho;refine Sq.take hL h3 (λhi H4 nx4 h4=> ?_) (λhi H4 nx4 h4=> ?_)
 . rw[if_pos hi]at ho;simp only[af];exact Hq.fin (G:=[]) h4 cf cG dM rfl rfl rfl fE.nil.fz (by omega) λH5 nx5 h5=>End.ret ho rfl h5
 rw[if_neg (by rw[hi];simp)]at ho;simp only[af];refine Sq.take hL h4 (λhi H5 nx5 h5=> ?_) (λhi H5 nx5 h5=> ?_)
 . rw[if_pos hi]at ho;simp only[af];refine Sq.word (by decide) hL h5 ho λH6 nx6 _ ho h6=> ?_;simp only[af,OU,qA];exact Hq.fin (G:=[]) h6 cf cG dM rfl rfl rfl fE.nil.fz (by omega) λH7 nx7 h7=>End.ret ho rfl h7
 rw[if_neg (by rw[hi];simp)]at ho;simp only[af];refine Sq.kh hL h5 ho λH6 nx6 _ ho h6=> ?_;refine Sq.take hL h6 (λhi H7 nx7 h7=> ?_) (λhi H7 nx7 h7=> ?_)
 . rw[if_pos hi]at ho;simp only[af];exact Hq.fin (G:=[]) h7 cf cG dM rfl rfl rfl fE.nil.fz (by omega) λH8 nx8 h8=>End.ret ho rfl h8
 rw[if_neg (by rw[hi];simp)]at ho;simp only[af];refine Sq.call (hpat n (Nat.le_refl n)) rfl h7 ho λa k' H8 nx8 _ ho h8=> ?_;refine Hq.alloc cS h8 λx1 H9 nx9 h9=> ?_;refine Hq.set [_] h9 cf rfl a.len (fE.of a).one λH10 h10=> ?_
 refine Sq.is h10 λH11 nx11 h11=> ?_;cases hc:dN L k' [44]with
 | true=>
   rw[hc,if_pos rfl]at ho;simp only[af,iv (h11.at_ 1 rfl) a.len];refine Hq.ed a.cs a.len h11 λx H12 nx12 h12=> ?_;simp only[af,lI];refine Hq.set [_,_] h12 cf a.len rfl rfl λH13 h13=> ?_
   exact OV hL (n+1) (λj hj=>hpat j (by omega)) [a] k' (gG x 1 1) [(x,a.cs,47)] o _ x0 x1 nx12 H13 (show 1+(n+1)<=90010 by omega) (Gw.j1 a.fR) rfl ho (Hp.nJ h13)
 | false=>
   rw[hc,if_neg (by simp)]at ho;simp only[af];refine Wq.jmp (Ly ..) (λ_=>rfl) ?_;refine Sq.kh hL h11 ho λH12 nx12 _ ho h12=> ?_;simp only[af,iv (h12.at_ 1 rfl) a.len];have h4:Hp nx0 H0 (cQ bp L (k'+1)::(x0,[i64 0,i64 0,aD [],aC],47)::([]++F)) H12 nx12:=(Hp.mv [_] h12).sub (by simp);exact Hq.fin h4 cf cG dM rfl a.len (fE.of a).one a.fz (by omega) λH5 nx5 h5=>End.ret ho rfl h5
end
section
variable {nx0 nx nx' bp k:Nat}{H0 H H':T OB}{F A B G G':List Bx}{s:Bx}{R:Go.Ev.Out->T OB->Nat->Prop}{b:Nat}{l:List Value}{e t:TypeId}{L:List Tok}
structure dP (n:Nat)(cs:List Value)(a:aH)(G:List Bx):Prop where
 len:cs.length=6
 one:cs.all aA=true
 fz:gB n [(3,41),(4,42),(5,24)] (.agg ⟨cs⟩) a.v G
theorem dP.of (a:aH):dP 0 a.cs a []:=⟨a.len,(a.fR a.v (by simp)).2.1,a.fz⟩
theorem dP.fR {n:Nat}{cs:List Value}{a:aH}(h:dP n cs a G):pa true 6 [.agg ⟨cs⟩]:=λv hv=>by
 rw[List.mem_singleton]at hv;subst hv;exact⟨h.len,h.one,⟨_,rfl⟩⟩
theorem dP.row {k i:Int}{w:List UInt8}{sl sp sd:Value}{l:List aH}{p:List bh}{d:List a_}{n:Nat}{G1 G2 G3:List Bx}(h1:db n 41 sl (gm l) G1)(h2:db n 42 sp (cD p) G2)(h3:db n 24 sd (bQ d) G3)(o1:aA sl=true)(o2:aA sp=true)(o3:aA sd=true):
 dP n [i64 k,i64 i,aD w,sl,sp,sd] (.mk k i w l p d) (G1++(G2++G3)):=⟨rfl,by simp[o1,o2,o3],by
 rw[aH.br];exact gB.of (eW.cons (p:=(3,41)) (cs:=[i64 k,i64 i,aD w,sl,sp,sd]) rfl h1 (eW.cons (p:=(4,42)) rfl h2 (eW.one (p:=(5,24)) rfl h3)))⟩
theorem jr {n:Nat}:db n 42 aC (cD []) []:=(db.nil er cf).mono (Nat.zero_le n)
theorem nK {n:Nat}:db n 24 aC (bQ []) []:=(db.nil gu dz).mono (Nat.zero_le n)
theorem uO {n:Nat}:db n 41 aC (gm []) []:=(db.nil fu bG).mono (Nat.zero_le n)
theorem dP.ll {k i:Int}{w:List UInt8}{sl:Value}{l:List aH}{n:Nat}(h:db n 41 sl (gm l) G)(ho:aA sl=true):dP n [i64 k,i64 i,aD w,sl,aC,aC] (.mk k i w l [] []) G:=by
 have:=dP.row (k:=k) (i:=i) (w:=w) h (jr (n:=n)) (nK (n:=n)) ho rfl rfl;rwa[List.append_nil,List.append_nil]at this
theorem dP.nil {k i:Int}{w:List UInt8}:dP 0 [i64 k,i64 i,aD w,aC,aC,aC] (.mk k i w [] [] []) []:=dP.ll uO rfl
theorem dP.gw {k i:Int}{w:List UInt8}{sl:Value}{l:List aH}(h:Gw true 6 44 (l.map aH.v) sl G):dP 1 [i64 k,i64 i,aD w,sl,aC,aC] (.mk k i w l [] []) G:=dP.ll h.Mx (cE h)
theorem dP.b1 {k i:Int}{w:List UInt8}{n:Nat}{cs:List Value}{a:aH}(h:dP n cs a G):dP (n+1) [i64 k,i64 i,aD w,gG b 1 1,aC,aC] (.mk k i w [a] [] []) ((b,cs,44)::G):=by
 have:=db.e8 (t:=41) (b:=b) fu bG bZ rfl de h.fR (.inr rfl) (by simp) (iN.one h.fz) (λu hu=>by rw[List.mem_singleton]at hu;subst hu;exact a.len);rw[iw cs]at this;exact dP.ll this rfl
theorem dP.b2 {k i:Int}{w:List UInt8}{n:Nat}{cs:List Value}{a c:aH}(h:dP n cs a G):dP (n+1) [i64 k,i64 i,aD w,gG b 2 2,aC,aC] (.mk k i w [a,c] [] []) ((b,cs++c.cs,44)::G):=by
 have:=db.e8 (t:=41) (b:=b) (vs:=[.agg ⟨cs⟩,c.v]) fu bG bZ rfl de (λv hv=>by
  rcases List.mem_cons.1 hv with rfl | hv
  . exact h.fR _ (by simp)
  . exact c.fR v hv) (.inr rfl) (by simp) (iN.two h.fz c.fz) (λu hu=>by
  rcases List.mem_cons.1 hu with rfl | hu
  . exact a.len
  . rw[List.mem_singleton]at hu;subst hu;exact c.len)
 rw[show cj [Value.agg ⟨cs⟩,c.v]=cs++c.cs from mA cs c.cs]at this;exact dP.ll this rfl
theorem dP.b3 {k i:Int}{w:List UInt8}{a c d:aH}:dP 1 [i64 k,i64 i,aD w,gG b 3 3,aC,aC] (.mk k i w [a,c,d] [] []) [(b,a.cs++c.cs++d.cs,44)]:=by
 have hG:Gw true 6 44 ([a,c,d].map aH.v) (gG b 3 3) [(b,cj ([a,c,d].map aH.v),44)]:=Gw.one (aH.Xt _) rfl (by decide);have e:cj ([a,c,d].map aH.v)=a.cs++c.cs++d.cs:=by
  show a.cs++(c.cs++(d.cs++[]))=_;rw[List.append_nil,List.append_assoc]
 rw[e]at hG;exact dP.gw hG
theorem OW (hL:L.length<=100000):∀(m:Nat),(∀j,j<m->bL 148 L bh.v (ps L j).pat)->(∀j,j<m->bL 61 L aH.v (ps L j).exp)->∀(kk:Int) (l:List aH) (q:List bh) (k:Nat) (sl sp:Value) (G G':List Bx) (o:iZ aH) (z:List Value) (x0 x1 nx:Nat) (H:Go.Ev.T OB),l.length+m<=90010->q.length+m<=90010->
 Gw true 6 44 (l.map aH.v) sl G->Gw true 4 47 (q.map bh.v) sp G'->z.length=6->(ps L m).fO (.mk kk 0 [] l q []) k=some o->Hp nx0 H0 (cQ bp L k::(x1,[i64 kk,i64 0,aD [],sl,sp,aC],44)::(x0,z,44)::(G++(G'++F))) H nx->
 aO P pl X0 (.jump (wF (ptr bp) (ptr x1) (ptr x0) H nx)) nx0 H0 (End nx0 H0 bp L F aH.v o)
 | 0,_,_,kk,l,q,k,sl,sp,G,G',o,z,x0,x1,nx,H,hm,hm',hG,hG',hz,ho,h=>by cases ho
 | m+1,hp,he,kk,l,q,k,sl,sp,G,G',o,z,x0,x1,nx,H,hm,hm',hG,hG',hz,ho,h=>by
   have ho:xo L (ps L m) (.mk kk 0 [] l q []) k=some o:=ho;unfold xo at ho;refine Wq.jmp (Qp ..) (λ_=>rfl) ?_;simp only[af,aw (off:=4) (u:=sp) (h.at_ 1 rfl) gv rfl];refine Sq.call (hp m (Nat.lt_succ_self m)) rfl h ho λa k' H2 nx2 _ ho h2=> ?_;simp only[af,aw (off:=4) (u:=sp) (h2.at_ 1 rfl) gv rfl,bj];refine Hq.ed a.cs a.len h2 λx H3 nx3 h3=> ?_;simp only[af,aw (off:=4) (u:=sp) (h3.at_ 2 rfl) gv rfl,bj];refine Hq.uN (_::_::G) (x:=a) (by omega) hG' h3 λsp' G2 H4 nx4 hG2 h4=> ?_;refine Hq.put [_] h4 o7 (by rcases hG2.2 with⟨_,rfl,_⟩ | ⟨b,c,rfl,_⟩<;>rfl) (cE hG2) (by simp) rfl λH5 h5=> ?_;refine Sq.kh hL h5 ho λH6 nx6 _ ho h6=> ?_;simp only[af,aw (off:=3) (u:=sl) (h6.at_ 1 rfl) ik rfl];refine Sq.call (he m (Nat.lt_succ_self m)) rfl h6 ho λc k2 H7 nx7 _ ho h7=> ?_;simp only[af,aw (off:=3) (u:=sl) (h7.at_ 1 rfl) ik rfl,bj];refine Hq.dp c.cs c.len h7 λy H8 nx8 h8=> ?_;simp only[af,aw (off:=3) (u:=sl) (h8.at_ 2 rfl) ik rfl,bj];refine Hq.zT [_,_] (x:=c) (by omega) hG h8 λsl' G1 H9 nx9 hG1 h9=> ?_;refine Hq.put [_] h9 sn (by rcases hG1.2 with⟨_,rfl,_⟩ | ⟨b,c,rfl,_⟩<;>rfl) (cE hG1) (by simp) rfl λH10 h10=> ?_;refine Sq.take hL h10 (λhi H11 nx11 h11=> ?_) (λhi H11 nx11 h11=> ?_)
   . rw[if_pos hi]at ho;simp only[af];exact OW hL m (λj hj=>hp j (by omega)) (λj hj=>he j (by omega)) kk (l++[c]) (q++[a]) (k2+1) sl' sp' G1 G2 o z x0 x1 nx11 H11 (by rw[List.length_append];simp;omega) (by rw[List.length_append];simp;omega) hG1 hG2 hz ho h11
   . rw[if_neg (by rw[hi];simp)]at ho;have hv:dP 1 [i64 kk,i64 0,aD [],sl',sp',aC] (.mk kk 0 [] (l++[c]) (q++[a]) []) (G1++(G2++[])):=dP.row hG1.Mx hG2.JD nK (cE hG1) (cE hG2) rfl;simp only[af,d_ (h11.at_ 1 rfl) hv.len];have h12:Hp nx0 H0 (cQ bp L k2::(x0,z,44)::((G1++(G2++[]))++F)) H11 nx11:=by
      rw[List.append_nil,List.append_assoc];exact(Hp.mv [_] h11).sub (by simp)
     exact Hq.fin h12 bG bZ de hz hv.len hv.one hv.fz (by omega) λH5 nx5 h5=>End.ret ho rfl h5
def ME (L:List Tok)(r:aH->Nat->PR aH):Prop:=∀(nx0 nx:Nat) (H0 H:Go.Ev.T OB) (bp:Nat) (F G:List Bx) (k:Nat) (o:iZ aH) (kk:Int) (l:List aH) (sl:Value),l.length<=3->Gw true 6 44 (l.map aH.v) sl G->r (.mk kk 0 [] l [] []) k=some o->Hp nx0 H0 (cQ bp L k::(G++F)) H nx->
 aO P pl X0 (aQ P pl (.call 107 [ptr bp,.agg ⟨[i64 kk,i64 0,aD [],sl,aC,aC]⟩] false none H nx)) nx0 H0 (End nx0 H0 bp L F aH.v o)
theorem UL (hL:L.length<=100000){n:Nat}(hn:n<=90000)(hp:∀j,j<=n->bL 148 L bh.v (ps L j).pat)(he:∀j,j<=n->bL 61 L aH.v (ps L j).exp):ME L (ps L (n+1)).fO:=by
 intro nx0 nx H0 H bp F G k o kk l sl hl hG ho h;rw[Wb];refine Hq.box h λx1 H1 aE h1=> ?_;refine Hq.alloc bc h1 λx0 H2 nx2 h2=> ?_;exact OW hL (n+1) (λj hj=>hp j (by omega)) (λj hj=>he j (by omega)) kk l [] k sl aC G [] o _ x0 x1 nx2 H2 (by omega) (by simp;omega) hG (Gw.nil _ _ _) rfl ho (Hp.swap' h2)
theorem oI {α:Type}(x:PR α):bd x yes=x:=by
 cases x with
 | none=>rfl
 | some r=>cases r<;>rfl
theorem Sq.s_ {β:Type}{F1:List Bx}{vg:β->Value}{r:aH->Nat->PR aH}{g:aH->Nat->PR β}{o:iZ β}{kk:Int}{l:List aH}{sl:Value}{kt:Value->Go.Ev.T OB->Nat->Q}(hs:ME L r)(hl:l.length<=3)(hG:Gw true 6 44 (l.map aH.v) sl G)(h:Hp nx0 H0 (cQ bp L k::(G++F1)) H nx)
 (ho:bd (r (.mk kk 0 [] l [] []) k) g=some o) (hk:∀a k' H' nx',g a k'=some o->Hp nx0 H0 (cQ bp L k'::F1) H' nx'->aO P pl X0 (kt a.v H' nx') nx0 H0 (End nx0 H0 bp L F vg o)):
 aO P pl X0 (aj (.call 107 [ptr bp,.agg ⟨[i64 kk,i64 0,aD [],sl,aC,aC]⟩] false none H nx) kt Ev.ar) nx0 H0 (End nx0 H0 bp L F vg o):=by
 cases hr:r (.mk kk 0 [] l [] []) k with
 | none=>rw[hr]at ho;cases ho
 | some q=>
   refine Wq.gM rfl (hs nx0 nx H0 H bp F1 G k q kk l sl hl hG hr h) (λu H' nx' _ he=> ?_) (λu H' nx' hA he=> ?_)
   . cases q with
     | bad a=>cases he
     | ok a k'=>
       rw[hr,Eu]at ho;cases he.1;exact hk a k' H' nx' ho he.2
   . cases q with
     | ok a k'=>cases he.1
     | bad a=>
       rw[hr,xn]at ho;cases ho;cases he;exact Sq.ar hA
theorem Hq.gV {a:aH}{kt:Go.Ev.T OB->Nat->Q}(h:Hp nx0 H0 F H nx)(hk:∀H' nx',Hp nx0 H0 F H' nx'->aO P pl X0 (kt H' nx') nx0 H0 R):aO P pl X0 (ao (au P H nx 44) λp H nx=>bF P H nx 44 (some p) a.v kt) nx0 H0 R:=Hq.var bc bG rfl a.len (dP.of a).one h hk
theorem pj (a:aH):ae P H 44 (some (ak a.v))=some a.v:=by
 rw[aH.br];exact Hk ..
theorem Hq.kZ {z:List Value}{a:aH}{x0:Nat}{kt:Value->Go.Ev.T OB->Nat->Q}(h:Hp nx0 H0 (s::(x0,z,44)::F) H nx)(hz:z.length=6)(hk:∀H' nx',Hp nx0 H0 (s::F) H' nx'->aO P pl X0 (kt a.v H' nx') nx0 H0 R):
 aO P pl X0 (ao (ah P H nx 44 (some (ptr x0)) (some a.v)) λ_ H nx=>aa (ae P H 44 (some (ptr x0))) (λx=>aX P 44 x H nx kt) .bad) nx0 H0 R:=
 Hq.fin (G:=[]) h bG bZ de hz a.len (dP.of a).one a.fz (by omega) hk
theorem Xw (hL:L.length<=100000){p:PS}(hexp:bL 61 L aH.v p.exp)(hmat:ME L p.fO)(hbin:∀nx0 nx H0 H bp F k o,p.bin 0 k=some o->Hp nx0 H0 (cQ bp L k::F) H nx->aO P pl X0 (aQ P pl (.call 108 [ptr bp,i64 0] false none H nx)) nx0 H0 (End nx0 H0 bp L F aH.v o)):bL 61 L aH.v (xp L p):=by
 intro nx0 nx H0 H bp F k o ho h;unfold xp at ho;rw[YK];refine Hq.alloc bc h λx0 H1 aE h1=> ?_;refine Sq.take hL h1 (λhi H2 nx2 h2=> ?_) (λhi H2 nx2 h2=> ?_)
 . rw[if_pos hi]at ho;simp only[af];refine Sq.call hexp rfl h2 ho λa k2 H3 nx3 _ ho h3=> ?_;refine Hq.gV h3 λH4 nx4 h4=> ?_;refine Sq.kh hL h4 ho λH5 nx5 _ ho h5=> ?_;refine Sq.call hexp rfl h5 ho λb k3 H6 nx6 _ ho h6=> ?_;refine Hq.gV h6 λH7 nx7 h7=> ?_;refine Sq.kh hL h7 ho λH8 nx8 _ ho h8=> ?_;simp only[af,pj];refine Sq.call hexp rfl h8 ho λc k4 H9 nx9 _ ho h9=> ?_;refine Hq.EG a.cs b.cs c.cs a.len b.len c.len h9 λx H10 nx10 h10=> ?_;simp only[af,eH];have h11:Hp nx0 H0 (cQ bp L k4::(x0,_,44)::([(x,a.cs++b.cs++c.cs,44)]++F)) H10 nx10:=Hp.swap' h10;exact Hq.fin h11 bG bZ de rfl rfl rfl dP.b3.fz (by omega) λH5 nx5 h5=>End.ret ho rfl h5
 rw[if_neg (by rw[hi];simp)]at ho;simp only[af];refine Sq.take hL h2 (λhi H3 nx3 h3=> ?_) (λhi H3 nx3 h3=> ?_)
 . rw[if_pos hi]at ho;simp only[af];refine Sq.call hexp rfl h3 ho λa k2 H4 nx4 _ ho h4=> ?_;refine Hq.gV h4 λH5 nx5 h5=> ?_;refine Sq.kh hL h5 ho λH6 nx6 _ ho h6=> ?_;simp only[af,pj];refine Hq.dp a.cs a.len h6 λx H7 nx7 h7=> ?_;simp only[af,eH];rw[<- oI (p.fO _ _)]at ho;refine Sq.s_ hmat (l:=[a]) (by simp) (Gw.j1 a.fR) h7 ho λc k3 H8 nx8 ho h8=> ?_;exact Hq.kZ h8 rfl λH9 nx9 h9=>End.ret ho rfl h9
 rw[if_neg (by rw[hi];simp)]at ho;simp only[af];refine Sq.take hL h3 (λhi H4 nx4 h4=> ?_) (λhi H4 nx4 h4=> ?_)
 . rw[if_pos hi]at ho;simp only[af];rw[<- oI (p.fO _ _)]at ho;refine Sq.s_ hmat (l:=[]) (G:=[]) (by simp) (Gw.nil _ _ _) h4 ho λc k3 H8 nx8 ho h8=> ?_;exact Hq.kZ h8 rfl λH9 nx9 h9=>End.ret ho rfl h9
 rw[if_neg (by rw[hi];simp)]at ho;simp only[af];refine Sq.take hL h4 (λhi H5 nx5 h5=> ?_) (λhi H5 nx5 h5=> ?_)
 . rw[if_pos hi]at ho;simp only[af];refine Sq.call hexp rfl h5 ho λa k2 H6 nx6 _ ho h6=> ?_;refine Hq.dp a.cs a.len h6 λx H7 nx7 h7=> ?_;simp only[af,eH];have h11:Hp nx0 H0 (cQ bp L k2::(x0,_,44)::([(x,a.cs,44)]++F)) H7 nx7:=Hp.swap' h7;exact Hq.fin h11 bG bZ de rfl rfl rfl (dP.b1 (dP.of a)).fz (by omega) λH5 nx5 h5=>End.ret ho rfl h5
 rw[if_neg (by rw[hi];simp)]at ho;simp only[af];cases hr:p.bin 0 k with
 | none=>rw[hr]at ho;cases ho
 | some q=>
   refine Wq.gM rfl (hbin nx0 nx5 H0 H5 bp _ k q hr h5) (λu H6 nx6 _ he=> ?_) (λu H6 nx6 hA he=> ?_)
   . cases q with
     | bad a=>cases he
     | ok a k2=>
       rw[hr,Eu]at ho;obtain⟨he1,h6⟩:=he;cases he1;refine Hq.gV h6 λH7 nx7 h7=> ?_;refine Sq.take hL h7 (λhi H8 nx8 h8=> ?_) (λhi H8 nx8 h8=> ?_)
       . rw[if_pos hi]at ho;simp only[af,pj];refine Hq.dp a.cs a.len h8 λx H9 nx9 h9=> ?_;simp only[af,eH];rw[<- oI (p.fO _ _)]at ho;refine Sq.s_ hmat (l:=[a]) (by simp) (Gw.j1 a.fR) h9 ho λc k3 H10 nx10 ho h10=> ?_;exact Hq.kZ h10 rfl λH9 nx9 h9=>End.ret ho rfl h9
       . rw[if_neg (by rw[hi];simp)]at ho;simp only[af,pj];exact Hq.kZ h8 rfl λH9 nx9 h9=>End.ret ho rfl h9
   . cases q with
     | ok a k'=>cases he.1
     | bad a=>
       rw[hr,xn]at ho;cases ho;cases he;exact Sq.ar hA
end
section
variable {nx0 nx nx' bp k:Nat}{H0 H H':T OB}{F A B G G':List Bx}{s:Bx}{R:Go.Ev.Out->T OB->Nat->Prop}{b:Nat}{l:List Value}{e t:TypeId}{L:List Tok}
theorem MF:∀(i:Nat),i<7->ay P 182 (some (.pointer (some ⟨2,0,none⟩))) (some (i64 (i:Int)))=some (.pointer (some ⟨2,i,none⟩))
 | 0,_=>by kernel_rfl
 | 1,_=>by kernel_rfl
 | 2,_=>by kernel_rfl
 | 3,_=>by kernel_rfl
 | 4,_=>by kernel_rfl
 | 5,_=>by kernel_rfl
 | 6,_=>by kernel_rfl
 | i+7,h=>by omega
theorem EO {i:Nat}(h:i<7):bE[i]? = some ((bE[i]?).getD [])/\((bE[i]?).getD []).length<cX/\((bE[i]?).getD []).contains []=false/\∀w,((bE[i]?).getD []).contains w=true->(decide (w=[58,61])||decide (w=[58,58]))=decide (i=2\/i=4):=by
 have:∀i,i<7->bE[i]? = some ((bE[i]?).getD [])/\((bE[i]?).getD []).length<100/\((bE[i]?).getD []).contains []=false/\(((bE[i]?).getD []).all λw=>(decide (w=[58,61])||decide (w=[58,58])) == decide (i=2\/i=4))=true:=by decide +kernel
 obtain⟨h1,h2,h3,h4⟩:=this i h;refine⟨h1,Nat.lt_trans h2 (by decide),h3,λw hw=> ?_⟩;have hm:w∈(bE[i]?).getD []:=by simpa using hw
 have:=List.all_eq_true.1 h4 w hm;simpa using this
def JH (L:List Tok)(r:Nat->Nat->PR aH):Prop:=∀(lv nx0 nx:Nat) (H0 H:Go.Ev.T OB) (bp:Nat) (F:List Bx) (k:Nat) (o:iZ aH),lv<=7->r lv k=some o->Hp nx0 H0 (cQ bp L k::F) H nx->aO P pl X0 (aQ P pl (.call 108 [ptr bp,i64 (lv:Int)] false none H nx)) nx0 H0 (End nx0 H0 bp L F aH.v o)
theorem Sq.eQ {β:Type}{F1:List Bx}{vg:β->Value}{lv:Nat}{r:Nat->Nat->PR aH}{g:aH->Nat->PR β}{o:iZ β}{kt:Value->Go.Ev.T OB->Nat->Q}(hs:JH L r)(hl:lv<=7)(h:Hp nx0 H0 (cQ bp L k::F1) H nx)
 (ho:bd (r lv k) g=some o) (hk:∀a k' H' nx',g a k'=some o->Hp nx0 H0 (cQ bp L k'::F1) H' nx'->aO P pl X0 (kt a.v H' nx') nx0 H0 (End nx0 H0 bp L F vg o)):
 aO P pl X0 (aj (.call 108 [ptr bp,i64 (lv:Int)] false none H nx) kt Ev.ar) nx0 H0 (End nx0 H0 bp L F vg o):=by
 cases hr:r lv k with
 | none=>rw[hr]at ho;cases ho
 | some q=>
   refine Wq.gM rfl (hs lv nx0 nx H0 H bp F1 k q hl hr h) (λu H' nx' _ he=> ?_) (λu H' nx' hA he=> ?_)
   . cases q with
     | bad a=>cases he
     | ok a k'=>
       rw[hr,Eu]at ho;cases he.1;exact hk a k' H' nx' ho he.2
   . cases q with
     | ok a k'=>cases he.1
     | bad a=>
       rw[hr,xn]at ho;cases ho;cases he;exact Sq.ar hA
theorem MG {lv k:Nat}(h:lv<7):pD L lv k=(!decide ((if jT L k=true then(tk L k).s else[])=[])&&((bE[lv]?).getD []).contains (if jT L k=true then(tk L k).s else[])):=by
 obtain⟨_,_,h3,_⟩:=EO h;unfold pD;cases jT L k with
 | false=>simp
 | true=>
   rw[Bool.true_and,if_pos rfl]
   by_cases hs:(tk L k).s=[]
   . rw[hs,h3];simp
   . simp[hs]
theorem JI {L:List Tok}{k:Nat}(h:jT L k=true):k<L.length:=gb λq=>by unfold jT at h;rw[q]at h;simp at h
theorem OX (hL:L.length<=100000){lv:Nat}(hlv:lv<7):∀(m:Nat),(∀j,j<m->JH L (ps L j).bin)->∀(a:aH) (k n:Nat) (cs z:List Value) (G:List Bx) (o:iZ aH) (x0 x1 nx:Nat) (H:Go.Ev.T OB),n+m<=90010->dP n cs a G->z.length=6->(ps L m).fy lv a k=some o->
 Hp nx0 H0 (cQ bp L k::(x1,cs,44)::(x0,z,44)::(G++F)) H nx->aO P pl X0 (.jump (pS (ptr bp) (i64 (lv:Int)) (ptr x0) (ptr x1) H nx)) nx0 H0 (End nx0 H0 bp L F aH.v o)
 | 0,_,a,k,n,cs,z,G,o,x0,x1,nx,H,hm,hv,hz,ho,h=>by cases ho
 | m+1,hb,a,k,n,cs,z,G,o,x0,x1,nx,H,hm,hv,hz,ho,h=>by
   have ho:tJ L (ps L m) lv a k=some o:=ho;unfold tJ at ho;obtain⟨hg1,hg2,hg3,hg4⟩:=EO hlv;refine Wq.jmp (Ld ..) (λ_=>rfl) ?_;refine Sq.op h λH1 aE h1=> ?_;have fin:∀(w:Value) H2 nx2,pD L lv k=false->Hp nx0 H0 (cQ bp L k::(x1,cs,44)::(x0,z,44)::(G++F)) H2 nx2->aO P pl X0 (.jump (pT (ptr bp) (i64 (lv:Int)) (ptr x0) (ptr x1) w true H2 nx2)) nx0 H0 (End nx0 H0 bp L F aH.v o):=by
    intro w H2 nx2 hf h2;rw[if_neg (by rw[hf];simp)]at ho;refine Wq.jmp (D0 ..) (λ_=>rfl) ?_;simp only[af,d_ (h2.at_ 1 rfl) hv.len];have h3:Hp nx0 H0 (cQ bp L k::(x0,z,44)::(G++F)) H2 nx2:=(Hp.mv [_] h2).sub (by simp);exact Hq.fin h3 bG bZ de hz hv.len hv.one hv.fz (by omega) λH5 nx5 h5=>End.ret ho rfl h5
   have hop:=MG (L:=L) (k:=k) hlv;simp only[af,Ex];refine Wq.ite (λhw=> ?_) (λhw=> ?_)
   . exact fin _ H1 aE (by rw[hop,hw];simp) h1
   . simp only[af,MF lv hlv,oF (h1.uI.ag h1.ag).levels gz (show(bE.map lvl)[lv]? = some (lvl ((bE[lv]?).getD []))by rw[List.getElem?_map,hg1];rfl)];refine Hq.call (Ri _ hg2 _) h1 λH2 nx2 h2=> ?_;simp only[af];cases hc:((bE[lv]?).getD []).contains (if jT L k=true then(tk L k).s else[])with
     | false=>exact fin _ H2 nx2 (by rw[hop,hc,Bool.and_false]) h2
     | true=>
       have kC:pD L lv k=true:=by rw[hop,hc];simp[hw]
       have hW:jT L k=true:=by
        unfold pD at kC;rw[Bool.and_eq_true]at kC;exact kC.1
       rw[if_pos kC]at ho;rw[if_pos hW]at hc ⊢;refine Wq.jmp (D0 ..) (λ_=>rfl) ?_;simp only[af,pk h2,dE hL (JI hW)];refine dU h2 λH3 h3=> ?_;refine Hq.call (Ru _) h3 λH4 nx4 h4=> ?_;rw[hg4 _ hc];refine Wq.ite (λhr=> ?_) (λhr=> ?_)
       . rw[if_pos hr]at ho;simp only[af,d_ (h4.at_ 1 rfl) hv.len];refine Sq.eQ (hb m (Nat.lt_succ_self m)) (by omega) h4 ho λc k' H5 nx5 ho h5=> ?_;simp only[af,d_ (h5.at_ 1 rfl) hv.len,bj];refine Hq.nE cs c.cs hv.len c.len h5 λx H6 nx6 h6=> ?_;simp only[af,nF];have h7:Hp nx0 H0 (cQ bp L k'::(x0,z,44)::((x,cs++c.cs,44)::G++F)) H6 nx6:=(Hp.mv [_,_] h6).sub (by simp);exact Hq.fin h7 bG bZ de hz rfl rfl (dP.b2 hv).fz (by omega) λH5 nx5 h5=>End.ret ho rfl h5
       . rw[if_neg hr]at ho;simp only[af,d_ (h4.at_ 1 rfl) hv.len,aG (show lv<9223372036854775807 by omega)];refine Sq.eQ (lv:=lv+1) (hb m (Nat.lt_succ_self m)) (by omega) h4 ho λc k' H5 nx5 ho h5=> ?_;simp only[af,d_ (h5.at_ 1 rfl) hv.len,bj];refine Hq.nE cs c.cs hv.len c.len h5 λx H6 nx6 h6=> ?_;simp only[af,nF];refine Hq.set [_,_] h6 bG hv.len rfl rfl λH7 h7=> ?_
         exact OX hL hlv m (λj hj=>hb j (by omega)) _ k' (n+1) _ z ((x,cs++c.cs,44)::G) o x0 x1 nx6 H7 (by omega) (dP.b2 hv) hz ho (Hp.nJ h7)
theorem UM (hL:L.length<=100000){n:Nat}(hn:n<=90000)(hb:∀j,j<=n->JH L (ps L j).bin)(hu:bL 151 L aH.v (ps L n).un):JH L (ps L (n+1)).bin:=by
 intro lv nx0 nx H0 H bp F k o hlv ho h;have ho:xq L (ps L n) lv k=some o:=ho;unfold xq at ho;rw[Wc];refine Hq.alloc bc h λx0 H1 aE h1=> ?_;simp only[af];refine Wq.ite (λhi=> ?_) (λhi=> ?_)
 . rw[if_pos (by omega),<- oI ((ps L n).un k)]at ho;refine Sq.call hu rfl h1 ho λa k' H2 nx2 _ ho h2=> ?_;exact Hq.kZ h2 rfl λH9 nx9 h9=>End.ret ho rfl h9
 . rw[if_neg (by omega)]at ho;simp only[af,aG (show lv<9223372036854775807 by omega)];refine Sq.eQ (lv:=lv+1) (hb n (Nat.le_refl n)) (by omega) h1 ho λa k' H2 nx2 ho h2=> ?_;refine Hq.alloc bc h2 λx1 H3 nx3 h3=> ?_;refine Hq.set [_] h3 bG rfl a.len (dP.of a).one λH4 h4=> ?_
   exact OX hL (by omega) (n+1) (λj hj=>hb j (by omega)) a k' 0 _ _ [] o x0 x1 nx3 H4 (by omega) (dP.of a) rfl ho h4
theorem OY (hL:L.length<=100000):∀(m:Nat),(∀j,j<m->bL 178 L aH.v (ps L j).atom)->∀(a:aH) (k n:Nat) (cs z:List Value) (G:List Bx) (o:iZ aH) (x0 x1 nx:Nat) (H:Go.Ev.T OB),n+m<=90010->dP n cs a G->z.length=6->(ps L m).fP a k=some o->
 Hp nx0 H0 (cQ bp L k::(x1,cs,44)::(x0,z,44)::(G++F)) H nx->aO P pl X0 (.jump (p8 (ptr bp) (ptr x0) (ptr x1) H nx)) nx0 H0 (End nx0 H0 bp L F aH.v o)
 | 0,_,a,k,n,cs,z,G,o,x0,x1,nx,H,hm,hv,hz,ho,h=>by cases ho
 | m+1,ha,a,k,n,cs,z,G,o,x0,x1,nx,H,hm,hv,hz,ho,h=>by
   have ho:tK L (ps L m) a k=some o:=ho;unfold tK at ho;refine Wq.jmp (Lp ..) (λ_=>rfl) ?_;refine Sq.Xq h λH1 aE h1=> ?_;cases hb:lP L k with
   | true=>
     rw[if_pos hb]at ho;simp only[af,d_ (h1.at_ 1 rfl) hv.len];refine Sq.call (ha m (Nat.lt_succ_self m)) rfl h1 ho λc k' H5 nx5 _ ho h5=> ?_;simp only[af,d_ (h5.at_ 1 rfl) hv.len,bj];refine Hq.nE cs c.cs hv.len c.len h5 λx H6 nx6 h6=> ?_;simp only[af,eH];refine Hq.set [_,_] h6 bG hv.len rfl rfl λH7 h7=> ?_
     exact OY hL m (λj hj=>ha j (by omega)) _ k' (n+1) _ z ((x,cs++c.cs,44)::G) o x0 x1 nx6 H7 (by omega) (dP.b2 hv) hz ho (Hp.nJ h7)
   | false=>
     rw[if_neg (by rw[hb];simp)]at ho;simp only[af,d_ (h1.at_ 1 rfl) hv.len];have h3:Hp nx0 H0 (cQ bp L k::(x0,z,44)::(G++F)) H1 aE:=(Hp.mv [_] h1).sub (by simp);exact Hq.fin h3 bG bZ de hz hv.len hv.one hv.fz (by omega) λH5 nx5 h5=>End.ret ho rfl h5
theorem UN (hL:L.length<=100000){n:Nat}(hn:n<=90000)(ha:∀j,j<=n->bL 178 L aH.v (ps L j).atom)(hu:bL 151 L aH.v (ps L n).un):bL 151 L aH.v (ps L (n+1)).un:=by
 intro nx0 nx H0 H bp F k o ho h;have ho:LY L (ps L n) k=some o:=ho;unfold LY at ho;rw[WE];refine Hq.alloc bc h λx0 H1 aE h1=> ?_;refine Sq.op h1 λH2 nx2 h2=> ?_;have J:∀(bb:Bool) H3 nx3,unOp L k=bb->Hp nx0 H0 (cQ bp L k::(x0,[i64 0,i64 0,aD [],aC,aC,aC],44)::F) H3 nx3->aO P pl X0 (.jump (wQ (ptr bp) (ptr x0) (aD (if jT L k=true then(tk L k).s else[])) bb H3 nx3)) nx0 H0 (End nx0 H0 bp L F aH.v o):=by
  intro bb H3 nx3 hbb h3;refine Wq.jmp (Qu ..) (λ_=>rfl) ?_;cases bb with
  | true=>
    rw[if_pos hbb]at ho;have hW:jT L k=true:=by
     unfold unOp at hbb;rw[Bool.and_eq_true]at hbb;exact hbb.1
    rw[if_pos hW];simp only[af,pk h3,dE hL (JI hW)];refine dU h3 λH4 h4=> ?_;refine Sq.call hu rfl h4 ho λa k' H5 nx5 _ ho h5=> ?_;refine Hq.dp a.cs a.len h5 λx H6 nx6 h6=> ?_;simp only[af,nF];have h7:Hp nx0 H0 (cQ bp L k'::(x0,_,44)::([(x,a.cs,44)]++F)) H6 nx6:=Hp.swap' h6;exact Hq.fin h7 bG bZ de rfl rfl rfl (dP.b1 (dP.of a)).fz (by omega) λH5 nx5 h5=>End.ret ho rfl h5
  | false=>
    rw[if_neg (by rw[hbb];simp)]at ho;simp only[af];refine Sq.call (ha n (Nat.le_refl n)) rfl h3 ho λa k' H5 nx5 _ ho h5=> ?_;refine Hq.alloc bc h5 λx1 H6 nx6 h6=> ?_;refine Hq.set [_] h6 bG rfl a.len (dP.of a).one λH7 h7=> ?_
    exact OY hL (n+1) (λj hj=>ha j (by omega)) a k' 0 _ _ [] o x0 x1 nx6 H7 (by omega) (dP.of a) rfl ho h7
 have hop:unOp L k=(!decide ((if jT L k=true then(tk L k).s else[])=[])&&eA.contains (if jT L k=true then(tk L k).s else[])):=by
  unfold unOp;cases jT L k with
  | false=>simp
  | true=>
    rw[Bool.true_and,if_pos rfl]
    by_cases hs:(tk L k).s=[]
    . rw[hs];decide +kernel
    . simp[hs]
 simp only[af,Ex];refine Wq.bK (λhw=> ?_) (λhw=> ?_)
 . simp only[af,Rj];refine Hq.sJ (L2 _) h2 λH3 nx3 h3=> ?_;simp only[af];exact J _ H3 nx3 (by rw[hop,hw,Bool.true_and]) h3
 . exact J false H2 nx2 (by rw[hop,hw,Bool.false_and]) h2
end
section
variable {nx0 nx nx' bp k:Nat}{H0 H H':T OB}{F A B G G':List Bx}{s:Bx}{R:Go.Ev.Out->T OB->Nat->Prop}{b:Nat}{l:List Value}{e t:TypeId}{L:List Tok}
theorem JJ (hL:L.length<=100000){sep:List UInt8}{kd:Int}:∀(m:Nat),(∀j,j<m->bL 61 L aH.v (ps L j).exp)->∀(l:List aH) (k:Nat) (sl:Value) (G:List Bx) (o:iZ aH) (y z:List Value) (x0 x1 x2 nx:Nat) (H:Go.Ev.T OB),l.length+m<=90010->Gw true 6 44 (l.map aH.v) sl G->y.length=6->z.length=6->
 bd ((ps L m).dQ sep (.mk kd 0 [] l [] []) k) (λe k=>aZ L [41] k λk=>yes e k)=some o->Hp nx0 H0 (cQ bp L k::(x2,[i64 kd,i64 0,aD [],sl,aC,aC],44)::(x1,y,44)::(x0,z,44)::(G++F)) H nx->
 aO P pl X0 (.jump (qh (ptr bp) (ptr x0) (ptr x1) (ak (.agg ⟨[aD sep,i64 kd]⟩)) (ptr x2) H nx)) nx0 H0 (End nx0 H0 bp L F aH.v o)
 | 0,_,l,k,sl,G,o,y,z,x0,x1,x2,nx,H,hm,hG,hy,hz,ho,h=>by cases ho
 | m+1,he,l,k,sl,G,o,y,z,x0,x1,x2,nx,H,hm,hG,hy,hz,ho,h=>by
   have ho:bd (kf L (ps L m) sep (.mk kd 0 [] l [] []) k) (λe k=>aZ L [41] k λk=>yes e k)=some o:=ho;unfold kf at ho;refine Wq.jmp (Lz ..) (λ_=>rfl) ?_;simp only[af];refine Sq.take hL h (λhi H1 aE h1=> ?_) (λhi H1 aE h1=> ?_)
   . rw[if_pos hi,iy]at ho;simp only[af,aw (off:=3) (u:=sl) (h1.at_ 1 rfl) ik rfl];refine Sq.call (he m (Nat.lt_succ_self m)) rfl h1 ho λc k' H2 nx2 _ ho2 h2=> ?_;simp only[af,aw (off:=3) (u:=sl) (h2.at_ 1 rfl) ik rfl,bj];refine Hq.dp c.cs c.len h2 λx H3 nx3 h3=> ?_;simp only[af,aw (off:=3) (u:=sl) (h3.at_ 2 rfl) ik rfl,bj];refine Hq.zT [_,_,_] (x:=c) (by omega) hG h3 λsl' G' H4 nx4 hG' h4=> ?_;refine Hq.put [_] h4 sn (by rcases hG'.2 with⟨_,rfl,_⟩ | ⟨b,c,rfl,_⟩<;>rfl) (cE hG') (by simp) rfl λH5 h5=> ?_;exact JJ hL m (λj hj=>he j (by omega)) (l++[c]) k' sl' G' o y z x0 x1 x2 nx4 H5 (by rw[List.length_append];simp;omega) hG' hy hz ho2 h5
   . rw[if_neg (by rw[hi];simp),eU]at ho;have hv:dP 1 [i64 kd,i64 0,aD [],sl,aC,aC] (.mk kd 0 [] l [] []) G:=dP.gw hG;simp only[af,d_ (h1.at_ 1 rfl) hv.len];refine Hq.set [_,_] h1 bG hy hv.len hv.one λH2 h2=> ?_
     refine Sq.kh hL h2 ho λH3 nx3 _ ho h3=> ?_;simp only[af,d_ (h3.at_ 2 rfl) hv.len];have h4:Hp nx0 H0 (cQ bp L (k+1)::(x0,z,44)::(G++F)) H3 nx3:=(Hp.mv [_,_] h3).sub (by simp);exact Hq.fin h4 bG bZ de hz hv.len hv.one hv.fz (by omega) λH5 nx5 h5=>End.ret ho rfl h5
theorem JK:aL P 195 (some (.agg ⟨[aD [44],i64 5,aD [59],i64 13]⟩)) (some (i64 0))=some (.agg ⟨[aD [44],i64 5]⟩):=by kernel_rfl
theorem JL:aL P 195 (some (.agg ⟨[aD [44],i64 5,aD [59],i64 13]⟩)) (some (i64 1))=some (.agg ⟨[aD [59],i64 13]⟩):=by kernel_rfl
theorem Hq.JM {w:List UInt8}{i:Int}{kt:Go.Ev.T OB->Nat->Q}(h:Hp nx0 H0 F H nx)(hk:∀H' nx',Hp nx0 H0 F H' nx'->aO P pl X0 (kt H' nx') nx0 H0 R):aO P pl X0 (ao (au P H nx 194) λp H nx=>bF P H nx 194 (some p) (.agg ⟨[aD w,i64 i]⟩) kt) nx0 H0 R:=Hq.var HD PU rfl rfl rfl h hk
theorem UO (hL:L.length<=100000){n:Nat}(hn:n<=90000)(he:∀j,j<=n->bL 61 L aH.v (ps L j).exp){a:aH}{z:List Value}{x0 x1:Nat}{o:iZ aH}(hz:z.length=6)
 (ho:(if dN L k [44]=true then bd (kf L (ps L n) [44] (.mk 5 0 [] [a] [] []) k) λe k=>aZ L [41] k λk=>yes e k
 else if dN L k [59]=true then bd (kf L (ps L n) [59] (.mk 13 0 [] [a] [] []) k) λe k=>aZ L [41] k λk=>yes e k
 else aZ L [41] k λk=>yes a k)=some o) (h:Hp nx0 H0 (cQ bp L k::(x1,a.cs,44)::(x0,z,44)::F) H nx):
 aO P pl X0 (.jump (qg (ptr bp) (ptr x0) (ptr x1) (.agg ⟨[aD [44],i64 5,aD [59],i64 13]⟩) (i64 0) H nx)) nx0 H0 (End nx0 H0 bp L F aH.v o):=by
 refine Wq.jmp (wV ..) (λ_=>rfl) ?_;simp only[af,JK,Int.reduceLT];refine Hq.JM h λH1 aE h1=> ?_;refine Sq.is h1 λH2 nx2 h2=> ?_;cases hc:dN L k [44]with
 | true=>
   rw[if_pos hc]at ho;simp only[af,d_ (h2.at_ 1 rfl) a.len];refine Hq.dp a.cs a.len h2 λx H3 nx3 h3=> ?_;simp only[af,eH];refine Hq.alloc bc h3 λx2 H4 nx4 h4=> ?_;refine Hq.set [_] h4 bG rfl rfl rfl λH5 h5=> ?_
   have h6:Hp nx0 H0 (cQ bp L k::(x2,_,44)::(x1,a.cs,44)::(x0,z,44)::([(x,a.cs,44)]++F)) H5 nx4:=h5.perm (List.Perm.cons _ (List.Perm.cons _ ((List.Perm.swap _ _ _).trans (List.Perm.cons _ (List.Perm.swap _ _ _)))));exact JJ hL (n+1) (λj hj=>he j (by omega)) [a] k (gG x 1 1) [(x,a.cs,44)] o _ z x0 x1 x2 nx4 H5 (show 1+(n+1)<=90010 by omega) (Gw.j1 a.fR) a.len hz ho h6
 | false=>
   rw[if_neg (by rw[hc];simp)]at ho;simp only[af];refine Wq.jmp (Eb ..) (λ_=>rfl) ?_;simp only[af,Int.reduceAdd,show IntKind.i64.wrap 1=1 from rfl];refine Wq.jmp (wV ..) (λ_=>rfl) ?_;simp only[af,JL,Int.reduceLT];refine Hq.JM h2 λH3 nx3 h3=> ?_;refine Sq.is h3 λH4 nx4 h4=> ?_;cases hc2:dN L k [59]with
   | true=>
     rw[if_pos hc2]at ho;simp only[af,d_ (h4.at_ 1 rfl) a.len];refine Hq.dp a.cs a.len h4 λx H5 nx5 h5=> ?_;simp only[af,eH];refine Hq.alloc bc h5 λx2 H6 nx6 h6=> ?_;refine Hq.set [_] h6 bG rfl rfl rfl λH7 h7=> ?_
     have h8:Hp nx0 H0 (cQ bp L k::(x2,_,44)::(x1,a.cs,44)::(x0,z,44)::([(x,a.cs,44)]++F)) H7 nx6:=h7.perm (List.Perm.cons _ (List.Perm.cons _ ((List.Perm.swap _ _ _).trans (List.Perm.cons _ (List.Perm.swap _ _ _)))));exact JJ hL (n+1) (λj hj=>he j (by omega)) [a] k (gG x 1 1) [(x,a.cs,44)] o _ z x0 x1 x2 nx6 H7 (show 1+(n+1)<=90010 by omega) (Gw.j1 a.fR) a.len hz ho h8
   | false=>
     rw[if_neg (by rw[hc2];simp)]at ho;simp only[af];refine Wq.jmp (Eb ..) (λ_=>rfl) ?_;simp only[af,Int.reduceAdd,show IntKind.i64.wrap 2=2 from rfl];refine Wq.jmp (wV ..) (λ_=>rfl) ?_;simp only[af,Int.reduceLT];refine Sq.kh hL h4 ho λH5 nx5 _ ho h5=> ?_;simp only[af,d_ (h5.at_ 1 rfl) a.len];exact Hq.kZ (Hp.jm h5) hz λH9 nx9 h9=>End.ret ho rfl h9
theorem UP (hL:L.length<=100000){n:Nat}(hn:n<=90000)(he:∀j,j<=n->bL 61 L aH.v (ps L j).exp)(hlt:bL 188 L aH.v (ps L n).lt):bL 178 L aH.v (ps L (n+1)).atom:=by
 intro nx0 nx H0 H bp F k o ho h;have ho:nn L (ps L n) k=some o:=ho;unfold nn at ho;rw[WU];refine Hq.alloc bc h λx0 H1 aE h1=> ?_;refine Sq.now h1 λH2 nx2 h2=> ?_;refine Sq.Ew h2 λH3 nx3 h3=> ?_;simp only[af];refine Wq.ite (λhi=> ?_) (λhi=> ?_)
 . rw[if_pos hi]at ho;simp only[af,pk h3,dE hL (gb (show(tk L k).k≠0 by omega))];refine dU h3 λH4 h4=> ?_;simp only[af,EL];exact Hq.fin (G:=[]) h4 bG bZ de rfl rfl rfl dP.nil.fz (by omega) λH5 nx5 h5=>End.ret ho rfl h5
 rw[if_neg hi]at ho;refine Wq.ite (λhi=> ?_) (λhi=> ?_)
 . rw[if_pos hi]at ho;simp only[af,pk h3,dE hL (gb (show(tk L k).k≠0 by omega))];refine dU h3 λH4 h4=> ?_;simp only[af,lH];exact Hq.fin (G:=[]) h4 bG bZ de rfl rfl rfl dP.nil.fz (by omega) λH5 nx5 h5=>End.ret ho rfl h5
 rw[if_neg hi]at ho;refine Wq.ite (λhi=> ?_) (λhi=> ?_)
 . rw[if_pos hi]at ho;simp only[af,pk h3,dE hL (gb (show(tk L k).k≠0 by omega))];refine dU h3 λH4 h4=> ?_;simp only[af,lH];exact Hq.fin (G:=[]) h4 bG bZ de rfl rfl rfl dP.nil.fz (by omega) λH5 nx5 h5=>End.ret ho rfl h5
 rw[if_neg hi]at ho;refine Wq.ite (λhi=> ?_) (λhi=> ?_)
 . rw[if_pos hi]at ho;simp only[af,pk h3,dE hL (gb (show(tk L k).k≠0 by omega))];refine dU h3 λH4 h4=> ?_;simp only[af,lH];exact Hq.fin (G:=[]) h4 bG bZ de rfl rfl rfl dP.nil.fz (by omega) λH5 nx5 h5=>End.ret ho rfl h5
 rw[if_neg hi]at ho;refine Sq.take hL h3 (λhi H4 nx4 h4=> ?_) (λhi H4 nx4 h4=> ?_)
 . rw[if_pos hi,<- oI ((ps L n).lt _)]at ho;simp only[af];refine Sq.call hlt rfl h4 ho λa k' H5 nx5 _ ho h5=> ?_;exact Hq.kZ h5 rfl λH9 nx9 h9=>End.ret ho rfl h9
 rw[if_neg (by rw[hi];simp)]at ho;simp only[af];refine Sq.kh hL h4 ho λH6 nx6 _ ho h6=> ?_;refine Sq.take hL h6 (λhi H7 nx7 h7=> ?_) (λhi H7 nx7 h7=> ?_)
 . rw[if_pos hi]at ho;simp only[af];exact Hq.fin (G:=[]) h7 bG bZ de rfl rfl rfl dP.nil.fz (by omega) λH8 nx8 h8=>End.ret ho rfl h8
 rw[if_neg (by rw[hi];simp)]at ho;simp only[af];refine Sq.call (he n (Nat.le_refl n)) rfl h7 ho λa k' H8 nx8 _ ho h8=> ?_;refine Hq.alloc bc h8 λx1 H9 nx9 h9=> ?_;refine Hq.set [_] h9 bG rfl a.len (dP.of a).one λH10 h10=> ?_
 exact UO hL hn he rfl ho h10
end
section
variable {nx0 nx nx' bp k:Nat}{H0 H H':T OB}{F A B G G':List Bx}{s:Bx}{R:Go.Ev.Out->T OB->Nat->Prop}{b:Nat}{l:List Value}{e t:TypeId}{L:List Tok}
def gZ (d:Option a_):Value:= .tuple ⟨[(d.getD kU).v,.bool d.isSome]⟩
theorem dP.UQ {n:Nat}{cs:List Value}{a:aH}{ds:List a_}{sd:Value}(h:dP n cs a G)(hd:Gw true 17 57 (ds.map a_.v) sd G'):dP (n+1) [i64 10,i64 0,aD [],gG b 1 1,aC,sd] (.mk 10 0 [] [a] [] ds) ((b,cs,44)::G++G'):=by
 have h1:=db.e8 (t:=41) (b:=b) fu bG bZ rfl de h.fR (.inr rfl) (by simp) (iN.one h.fz) (λu hu=>by rw[List.mem_singleton]at hu;subst hu;exact a.len);rw[iw cs]at h1;exact dP.row h1 jr (hd.Xv.mono (by omega)) rfl rfl (cE hd)
theorem OZ (hL:L.length<=100000){n:Nat}{cs z:List Value}{a:aH}{ds:List a_}{sd:Value}{x0 x1 x2:Nat}{o:iZ aH}(hv:dP n cs a G)(hn:n<=90010)(hd:Gw true 17 57 (ds.map a_.v) sd G')(hz:z.length=6)(ho:aZ L [101,110,100] k (λk=>yes (.mk 10 0 [] [a] [] ds) k)=some o)
 (h:Hp nx0 H0 (cQ bp L k::(x2,cs,44)::(x1,[i64 10,i64 0,aD [],aC,aC,sd],44)::(x0,z,44)::(G++(G'++F))) H nx):aO P pl X0 (aQ P pl (w3 (ptr bp) (ptr x0) (ptr x1) (ptr x2) H nx)) nx0 H0 (End nx0 H0 bp L F aH.v o):=by
 rw[Ee];refine Sq.kh hL h ho λH1 aE _ ho h1=> ?_;simp only[af,d_ (h1.at_ 1 rfl) hv.len];refine Hq.dp cs hv.len h1 λx H2 nx2 h2=> ?_;refine Hq.put [_,_,_] h2 sn rfl rfl (by simp) rfl λH3 h3=> ?_;simp only[af,d_ (h3.at_ 3 rfl) rfl];have hl:=dP.UQ (b:=x) hv hd;have h4:Hp nx0 H0 (cQ bp L (k+1)::(x0,z,44)::(((x,cs,44)::G++G')++F)) H3 nx2:=by
  rw[List.cons_append,List.cons_append,List.append_assoc];exact(Hp.mv [_,_,_] h3).sub (by simp)
 exact Hq.fin h4 bG bZ de hz hl.len hl.one hl.fz (by omega) λH5 nx5 h5=>End.ret ho rfl h5
theorem O0 (hL:L.length<=100000){ds:List a_}{sd:Value}(hd:Gw true 17 57 (ds.map a_.v) sd G'):∀(m:Nat),(∀j,j<m->bL 61 L aH.v (ps L j).exp)->∀(l:List aH) (k:Nat) (sl:Value) (G:List Bx) (o:iZ aH) (z:List Value) (x0 x1 x2 nx:Nat) (H:Go.Ev.T OB),l.length+m<=90010->Gw true 6 44 (l.map aH.v) sl G->z.length=6->
 bd ((ps L m).dQ [59] (.mk 13 0 [] l [] []) k) (λa k=>aZ L [101,110,100] k λk=>yes (.mk 10 0 [] [a] [] ds) k)=some o->Hp nx0 H0 (cQ bp L k::(x2,[i64 13,i64 0,aD [],sl,aC,aC],44)::(x1,[i64 10,i64 0,aD [],aC,aC,sd],44)::(x0,z,44)::(G++(G'++F))) H nx->
 aO P pl X0 (.jump (qj (ptr bp) (ptr x0) (ptr x1) (ptr x2) H nx)) nx0 H0 (End nx0 H0 bp L F aH.v o)
 | 0,_,l,k,sl,G,o,z,x0,x1,x2,nx,H,hm,hG,hz,ho,h=>by cases ho
 | m+1,he,l,k,sl,G,o,z,x0,x1,x2,nx,H,hm,hG,hz,ho,h=>by
   have ho:bd (kf L (ps L m) [59] (.mk 13 0 [] l [] []) k) (λa k=>aZ L [101,110,100] k λk=>yes (.mk 10 0 [] [a] [] ds) k)=some o:=ho;unfold kf at ho;refine Wq.jmp (LD ..) (λ_=>rfl) ?_;refine Sq.take hL h (λhi H1 aE h1=> ?_) (λhi H1 aE h1=> ?_)
   . rw[if_pos hi,iy]at ho;simp only[af,aw (off:=3) (u:=sl) (h1.at_ 1 rfl) ik rfl];refine Sq.call (he m (Nat.lt_succ_self m)) rfl h1 ho λc k' H2 nx2 _ ho2 h2=> ?_;simp only[af,aw (off:=3) (u:=sl) (h2.at_ 1 rfl) ik rfl,bj];refine Hq.dp c.cs c.len h2 λx H3 nx3 h3=> ?_;simp only[af,aw (off:=3) (u:=sl) (h3.at_ 2 rfl) ik rfl,bj];refine Hq.zT [_,_,_] (x:=c) (by omega) hG h3 λsl' G1 H4 nx4 hG1 h4=> ?_;refine Hq.put [_] h4 sn (by rcases hG1.2 with⟨_,rfl,_⟩ | ⟨b,c,rfl,_⟩<;>rfl) (cE hG1) (by simp) rfl λH5 h5=> ?_;exact O0 hL hd m (λj hj=>he j (by omega)) (l++[c]) k' sl' G1 o z x0 x1 x2 nx4 H5 (by rw[List.length_append];simp;omega) hG1 hz ho2 h5
   . rw[if_neg (by rw[hi];simp),eU]at ho;simp only[af];have:=OZ hL (dP.gw (k:=13) (i:=0) (w:=[]) hG) (by omega) hd hz ho h1;rw[Ee]at this;exact this
theorem Hq.UR {a:a_}{kt:Go.Ev.T OB->Nat->Q}(h:Hp nx0 H0 F H nx)(hk:∀H' nx',Hp nx0 H0 F H' nx'->aO P pl X0 (kt H' nx') nx0 H0 R):aO P pl X0 (ao (au P H nx 57) λp H nx=>bF P H nx 57 (some p) a.v kt) nx0 H0 R:=Hq.var cW dz rfl a.len (a.fR a.v (by simp)).2.1 h hk
theorem X3 (a:a_):ae P H 57 (some (ak a.v))=some a.v:=by
 rw[a_.br];exact Ho ..
theorem O1 (hL:L.length<=100000){n:Nat}(hn:n<=90000)(he:∀j,j<=n->bL 61 L aH.v (ps L j).exp):∀(m:Nat),(∀j,j<m->bL 105 L gZ (ps L j).bind)->∀(ds:List a_) (k:Nat) (sd:Value) (G':List Bx) (o:iZ aH) (z:List Value) (x0 x1 nx:Nat) (H:Go.Ev.T OB),ds.length+m<=90010->Gw true 17 57 (ds.map a_.v) sd G'->z.length=6->
 bd ((ps L m).ga ds k) (λds k=>bd ((ps L n).exp k) λa k=>
  if dN L k [59]=true then bd (kf L (ps L n) [59] (.mk 13 0 [] [a] [] []) k) λa k=>aZ L [101,110,100] k λk=>yes (.mk 10 0 [] [a] [] ds) k
  else aZ L [101,110,100] k λk=>yes (.mk 10 0 [] [a] [] ds) k)=some o->Hp nx0 H0 (cQ bp L k::(x1,[i64 10,i64 0,aD [],aC,aC,sd],44)::(x0,z,44)::(G'++F)) H nx->
 aO P pl X0 (.jump (wZ (ptr bp) (ptr x0) (ptr x1) H nx)) nx0 H0 (End nx0 H0 bp L F aH.v o)
 | 0,_,ds,k,sd,G',o,z,x0,x1,nx,H,hm,hd,hz,ho,h=>by cases ho
 | m+1,hb,ds,k,sd,G',o,z,x0,x1,nx,H,hm,hd,hz,ho,h=>by
   have ho:bd (tL L (ps L m) ds k) (λds k=>bd ((ps L n).exp k) λa k=>
    if dN L k [59]=true then bd (kf L (ps L n) [59] (.mk 13 0 [] [a] [] []) k) λa k=>aZ L [101,110,100] k λk=>yes (.mk 10 0 [] [a] [] ds) k
    else aZ L [101,110,100] k λk=>yes (.mk 10 0 [] [a] [] ds) k)=some o:=ho
   unfold tL at ho;refine Wq.jmp (QA ..) (λ_=>rfl) ?_;refine Sq.take hL h (λhi H1 aE h1=> ?_) (λhi H1 aE h1=> ?_)
   . rw[if_pos hi,eU]at ho;simp only[af];refine Sq.call (he n (Nat.le_refl n)) rfl h1 ho λa k' H2 nx2 _ ho h2=> ?_;refine Hq.alloc bc h2 λx2 H3 nx3 h3=> ?_;refine Hq.set [_] h3 bG rfl a.len (dP.of a).one λH4 h4=> ?_
     refine Sq.is h4 λH5 nx5 h5=> ?_;cases hc:dN L k' [59]with
     | true=>
       rw[if_pos hc]at ho;simp only[af,d_ (h5.at_ 1 rfl) a.len];refine Hq.dp a.cs a.len h5 λx H6 nx6 h6=> ?_;simp only[af,eH];refine Hq.set [_,_] h6 bG a.len rfl rfl λH7 h7=> ?_
       have h8:Hp nx0 H0 (cQ bp L k'::(x2,_,44)::(x1,_,44)::(x0,z,44)::([(x,a.cs,44)]++(G'++F))) H7 nx6:=h7.perm (List.Perm.cons _ ((List.Perm.swap _ _ _).trans (List.Perm.cons _ ((List.Perm.swap _ _ _).trans (List.Perm.cons _ (List.Perm.swap _ _ _))))));exact O0 hL hd (n+1) (λj hj=>he j (by omega)) [a] k' (gG x 1 1) [(x,a.cs,44)] o z x0 x1 x2 nx6 H7 (show 1+(n+1)<=90010 by omega) (Gw.j1 a.fR) hz ho h8
     | false=>
       rw[if_neg (by rw[hc];simp)]at ho;simp only[af];exact Wq.jump (λ_=>rfl) (OZ (n:=0) (G:=[]) hL (dP.of a) (by omega) hd hz ho h5)
   . rw[if_neg (by rw[hi];simp),iy]at ho;simp only[af];refine Sq.call (hb m (Nat.lt_succ_self m)) rfl h1 ho λd k' H2 nx2 _ ho h2=> ?_;unfold gZ;simp only[af,F9,F_];refine Hq.UR h2 λH3 nx3 h3=> ?_;cases d with
     | none=>
       simp only[af,Option.isSome_none,Bool.not_false];exact Sq.fail (α:=aH) (β:=aH) (o:=o) (by cases ho;rfl) h3
     | some d=>
       simp only[af,Option.isSome_some,Bool.not_true,Option.getD_some];refine Wq.jmp (LC ..) (λ_=>rfl) ?_;simp only[af,aw (off:=5) (u:=sd) (h3.at_ 1 rfl) kL rfl,X3];refine Hq.qy d.cs d.len h3 λx H4 nx4 h4=> ?_;refine Hq.OO [_,_] (x:=d) (by omega) hd h4 λsd' G2 H5 nx5 hd' h5=> ?_;refine Hq.put [_] h5 sk (by rcases hd'.2 with⟨_,rfl,_⟩ | ⟨b,c,rfl,_⟩<;>rfl) (cE hd') (by simp) rfl λH6 h6=> ?_;refine Sq.skip hL h6 λbb H7 nx7 h7=> ?_;simp only[af];exact O1 hL hn he m (λj hj=>hb j (by omega)) (ds++[d]) _ sd' G2 o z x0 x1 nx7 H7 (by rw[List.length_append];simp;omega) hd' hz ho h7
theorem US (hL:L.length<=100000){n:Nat}(hn:n<=90000)(he:∀j,j<=n->bL 61 L aH.v (ps L j).exp)(hb:∀j,j<=n->bL 105 L gZ (ps L j).bind):bL 188 L aH.v (ps L (n+1)).lt:=by
 intro nx0 nx H0 H bp F k o ho h;have ho:LZ L (ps L n) k=some o:=ho;unfold LZ at ho;rw[W0];refine Hq.alloc bc h λx0 H1 aE h1=> ?_;refine Hq.alloc bc h1 λx1 H2 nx2 h2=> ?_;refine Hq.set [_] h2 bG rfl rfl rfl λH3 h3=> ?_
 exact O1 hL hn he (n+1) (λj hj=>hb j (by omega)) [] k aC [] o _ x0 x1 nx2 H3 (by simp;omega) (Gw.nil _ _ _) rfl ho h3
end
section
variable {nx0 nx nx' bp k:Nat}{H0 H H':T OB}{F A B G G':List Bx}{s:Bx}{R:Go.Ev.Out->T OB->Nat->Prop}{b:Nat}{l:List Value}{e t:TypeId}{L:List Tok}
theorem Fn.km {w:List UInt8}{q:List bh}{e:aH}{sp:Value}(hG:Gw true 4 47 (q.map bh.v) sp G):gB 1 [(1,42),(5,41),(6,42),(7,24)] (.agg ⟨aD w::sp::e.cs⟩) (Fn.v (.mk w q e)) G:=by
 rw[Fn.br,aH.fI];have h1:=hG.JD;have:=eW.cons (p:=(1,42)) (cs:=[aD w,sp,i64 e.k,i64 e.n,aD e.s,gm e.l,cD e.p,bQ e.d]) rfl h1 (eW.cons (p:=(5,41)) rfl ((db.row fu).mono (Nat.zero_le 1)) (eW.cons (p:=(6,42)) rfl ((db.row er).mono (Nat.zero_le 1)) (eW.cons (p:=(7,24)) rfl ((db.row gu).mono (Nat.zero_le 1)) eW.nil)));simp only[List.append_nil]at this;exact gB.of this
theorem O2 (hL:L.length<=100000){E:Nat->PR aH}(he:bL 61 L aH.v E){w:List UInt8}:∀(m:Nat),(∀j,j<m->bL 177 L bh.v (ps L j).bw)->∀(q:List bh) (k:Nat) (sp:Value) (G:List Bx) (o:iZ Fn) (z:List Value) (x0 x1 nx:Nat) (H:Go.Ev.T OB),q.length+m<=90010->Gw true 4 47 (q.map bh.v) sp G->z.length=8->
 bd ((ps L m).mD q k) (λl k=>aZ L [61] k λk=>bd (E k) λe k=>yes (.mk w l e) k)=some o->Hp nx0 H0 (cQ bp L k::(x1,[aD w,sp,i64 0,i64 0,aD [],aC,aC,aC],65)::(x0,z,65)::(G++F)) H nx->
 aO P pl X0 (.jump (wP (ptr bp) (ptr x0) (ptr x1) H nx)) nx0 H0 (End nx0 H0 bp L F Fn.v o)
 | 0,_,q,k,sp,G,o,z,x0,x1,nx,H,hm,hG,hz,ho,h=>by cases ho
 | m+1,hp,q,k,sp,G,o,z,x0,x1,nx,H,hm,hG,hz,ho,h=>by
   have ho:bd (tN L (ps L m) q k) (λl k=>aZ L [61] k λk=>bd (E k) λe k=>yes (.mk w l e) k)=some o:=ho;unfold tN at ho;refine Wq.jmp (Qt ..) (λ_=>rfl) ?_;refine Sq.Jq h λH1 aE h1=> ?_;cases hb:kT L k with
   | true=>
     rw[if_pos hb,iy]at ho;simp only[af,aw (off:=1) (u:=sp) (h1.at_ 1 rfl) gv rfl];refine Sq.call (hp m (Nat.lt_succ_self m)) rfl h1 ho λc k' H2 nx2 _ ho2 h2=> ?_;simp only[af,aw (off:=1) (u:=sp) (h2.at_ 1 rfl) gv rfl,bj];refine Hq.ed c.cs c.len h2 λx H3 nx3 h3=> ?_;simp only[af,aw (off:=1) (u:=sp) (h3.at_ 2 rfl) gv rfl,bj];refine Hq.uN [_,_] (x:=c) (by omega) hG h3 λsl' G1 H4 nx4 hG1 h4=> ?_;refine Hq.put [_] h4 o7 (by rcases hG1.2 with⟨_,rfl,_⟩ | ⟨b,c,rfl,_⟩<;>rfl) (cE hG1) (by simp) rfl λH5 h5=> ?_;exact O2 hL he m (λj hj=>hp j (by omega)) (q++[c]) k' sl' G1 o z x0 x1 nx4 H5 (by rw[List.length_append];simp;omega) hG1 hz ho2 h5
   | false=>
     rw[if_neg (by rw[hb];simp),eU]at ho;simp only[af];refine Sq.kh hL h1 ho λH2 nx2 _ ho h2=> ?_;refine Sq.call he rfl h2 ho λc k' H3 nx3 _ ho h3=> ?_;refine Hq.store [_] h3 bG (by simp) c.len (dP.of c).one λH4 h4=> ?_;have e1:ij [aD w,sp,i64 0,i64 0,aD [],aC,aC,aC] (aH.v c).cells.toList 2=aD w::sp::c.cs:=by
      rw[aH.br,aH.fI];rfl
     rw[e1]at h4;have hlen:(aD w::sp::c.cs).length=8:=by
      have:=c.len;simp only[List.length_cons];show c.cs.length+1+1=8;have h6:c.cs.length=6:=c.len;omega
     have hone:(aD w::sp::c.cs).all aA=true:=by
      simp only[List.all_cons,iJ,cE hG,Bool.true_and];exact(dP.of c).one
     simp only[af,OQ (h4.at_ 1 rfl) hlen];have h5:Hp nx0 H0 (cQ bp L k'::(x0,z,65)::(G++F)) H4 nx3:=(Hp.mv [_] h4).sub (by simp);exact Hq.fin h5 jl vF Jp hz hlen hone (Fn.km hG) (by omega) λH9 nx9 h9=>End.ret ho rfl h9
theorem UT (hL:L.length<=100000){n:Nat}(hn:n<=90000)(hp:∀j,j<=n->bL 177 L bh.v (ps L j).bw)(he:bL 61 L aH.v (ps L n).exp):bL 149 L Fn.v (ps L (n+1)).fn:=by
 intro nx0 nx H0 H bp F k o ho h;have ho:L0 L (ps L n) k=some o:=ho;unfold L0 at ho;rw[WC];refine Hq.alloc eZ h λx0 H1 aE h1=> ?_;refine Sq.word (by decide) hL h1 ho λH2 nx2 _ ho h2=> ?_;simp only[af];refine Sq.call (hp n (Nat.le_refl n)) rfl h2 ho λa k' H3 nx3 _ ho h3=> ?_;refine Hq.ed a.cs a.len h3 λx H4 nx4 h4=> ?_;simp only[af,My];refine Hq.alloc eZ h4 λx1 H5 nx5 h5=> ?_;refine Hq.set [_] h5 jl rfl rfl rfl λH6 h6=> ?_
 have h7:Hp nx0 H0 (cQ bp L k'::(x1,_,65)::(x0,_,65)::([(x,a.cs,47)]++F)) H6 nx5:=h6.perm (List.Perm.cons _ (List.Perm.cons _ (List.Perm.swap _ _ _)));exact O2 hL he (n+1) (λj hj=>hp j (by omega)) [a] k' (gG x 1 1) [(x,a.cs,47)] o _ x0 x1 nx5 H6 (show 1+(n+1)<=90010 by omega) (Gw.j1 a.fR) rfl ho h7
end
end
end Go.Proofs.YthjhonhhbddhkaaGreatDoor
