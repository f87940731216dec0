/- How many parts: the counting. -/
import Derived.Test.YthjhonhhbddhkaaGreatDoorG7
import Derived.Test.YthjhonhhbddhkaaGreatDoorProg
import Derived.WalkKit
import Derived.ProofKit
import Derived.OpenShut
import Derived.ShutString
import Derived.ChangeOld
import Derived.ChangeSame
import Derived.Deep.Slices
import Derived.DataElems
import Derived.Below
import Derived.SizedLaws
namespace Go.Proofs.YthjhonhhbddhkaaGreatDoor
open Go.Ev Go.RowKit
noncomputable section
set_option maxRecDepth 100000
set_option linter.unusedVariables false
set_option linter.unusedSimpArgs false
variable {nx0 : Nat} {H0 : T OB}
theorem Wq.eachW {α σ : Type} {R : Value -> T OB -> Nat -> Prop} (l : List α) (I : List α -> σ -> Prop) (q : Nat -> σ -> T OB -> Nat -> Q) (hend : ∀ s H1 nx1, I [] s -> Ag nx0 H0 nx1 H1 -> WqR P pl X0 (q l.length s H1 nx1) nx0 H0 R)
 (hstep : ∀ i a t s H1 nx1, l[i]? = some a -> i < l.length -> I (a :: t) s -> Ag nx0 H0 nx1 H1 -> (∀ s H2 nx2, I t s -> Ag nx0 H0 nx2 H2 -> WqR P pl X0 (q (i + 1) s H2 nx2) nx0 H0 R) -> WqR P pl X0 (q i s H1 nx1) nx0 H0 R)
 (s : σ) (H1 : T OB) (nx1 : Nat) (hI : I l s) (hA : Ag nx0 H0 nx1 H1) : WqR P pl X0 (q 0 s H1 nx1) nx0 H0 R := by
 have key : ∀ (t : List α) (i : Nat), l.drop i = t -> i <= l.length -> ∀ s H1 nx1, I t s -> Ag nx0 H0 nx1 H1 -> WqR P pl X0 (q i s H1 nx1) nx0 H0 R := by
  intro t
  induction t with
  | nil =>
    intro i hd hi s H1 nx1 hI hA
    have hil := drop_nil hd hi
    subst hil
    exact hend s H1 nx1 hI hA
  | cons a t ih =>
    intro i hd hi s H1 nx1 hI hA
    obtain ⟨hg, hlt, hd'⟩ := drop_cons hd
    exact hstep i a t s H1 nx1 hg hlt hI hA fun s H2 nx2 h1 h2 => ih (i + 1) hd' (by omega) s H2 nx2 h1 h2
 exact key l 0 rfl (Nat.zero_le _) s H1 nx1 hI hA
abbrev rgm (m : Int) : Prop := -2305843009213693952 <= m /\ m <= 500
abbrev rgd (m : Int) : Prop := -4611686018427387904 <= m /\ m <= 500
abbrev bnd (m r : Int) (k : Int) : Prop := (0 <= m -> r <= k * 35184372088832 + 2251799813685248 * m) /\ (m < 0 -> r <= k * 35184372088832)
def Sz (m : Int) (z : Nat) (r : Int) : Prop := 1 <= r /\ bnd m r 1 /\ (r <= m -> r = z)
def Sd (m : Int) (z : Nat) (r : Int) : Prop := 0 <= r /\ bnd m r 8 /\ (m < 0 -> r = 0) /\ (r <= m -> r = z)
abbrev SzR (m : Int) (z : Nat) : Value -> T OB -> Nat -> Prop := fun v _ _ => ∃ r, v = i64 r /\ Sz m z r
abbrev SdR (m : Int) (z : Nat) : Value -> T OB -> Nat -> Prop := fun v _ _ => ∃ r, v = i64 r /\ Sd m z r
def Cnt (f : FuncId) (v : Value) (z : Nat) : Prop := ∀ (m : Int), rgm m -> ∀ nx0 H0 H nx, Ag nx0 H0 nx H -> WqR P pl X0 (evT P pl (.call f [v, i64 m] false none H nx)) nx0 H0 (SzR m z)
theorem Wq.cnt {f : FuncId} {v : Value} {z : Nat} (h : Cnt f v z) {m : Int} (hx : X0 f [v, i64 m] = none) (hm : rgm m) {H : T OB} {nx : Nat} {R : Value -> T OB -> Nat -> Prop} {k p : Value -> T OB -> Nat -> Q} (hA : Ag nx0 H0 nx H)
 (hk : ∀ r H' nx', Ag nx0 H0 nx' H' -> Sz m z r -> WqR P pl X0 (k (i64 r) H' nx') nx0 H0 R) : WqR P pl X0 (callQ (.call f [v, i64 m] false none H nx) k p) nx0 H0 R :=
 Wq.callR hx (h m hm nx0 H0 H nx hA) fun u H' nx' hA' ⟨r, hu, hs⟩ => by subst hu; exact hk r H' nx' hA' hs
theorem q8 (H : T OB) (n : Nat) (h : n < 140737488355328) : rdBin P H .quo 3 true (some (i64 (n : Int))) (some (i64 8)) = some (i64 ((n / 8 : Nat) : Int)) := by
 rw [rdBin_quo _ _ _ _ _ (by decide)]
 have e1 : ((n : Int).tdiv 8) = ((n / 8 : Nat) : Int) := by rw [Int.tdiv_eq_ediv_of_nonneg (by omega)]; omega
 rw [e1, wrap_id (by omega)]
theorem cnt_72_a (p : Pat) (hs : sOk p.s) (hl : p.l.length < big) (ih : ∀ a, a ∈ p.l -> Cnt 72 a.v a.z) : Cnt 72 p.v p.z := fun m hm nx0 H0 H nx hA => by
 have hs' : p.s.length < 140737488355328 := hs
 rw [q72]
 refine Wq.natF' hA fun hA => ?_
 simp only [stpF, sttF, List.length_map, txt_size, q8 _ _ hs', show IntKind.i64.wrap (1 + ((p.s.length / 8 : Nat) : Int)) = 1 + ((p.s.length / 8 : Nat) : Int) from wrap_id (by omega)]
 have hz := p.z_eq
 refine Wq.eachW (p.l) (fun t (n : Int) => 1 <= n /\ bnd m n 1 /\ (n <= m -> n + (patsZ t : Int) = (p.z : Int))) (fun i n H nx => .jump (l72_9 (i64 m) (eptrV p.v) (i64 n) (i64 (i : Int)) H nx)) (fun n0 H0' nx0' hI0 hA0 => ?_) (fun i0 a0 t0 n0 H0' nx0' hg0 hlt0 hI0 hA0 ih0 => ?_) (1 + ((p.s.length / 8 : Nat) : Int)) _ _ ?_ hA
 . refine Wq.jmp (q72_9 ..) (fun _ => rfl) ?_
   simp only [stpF, sttF, List.length_map, not_lt_len]
   exact Wq.retR hA0 ⟨_, rfl, hI0.1, hI0.2.1, fun h => by have := hI0.2.2 h; simpa [patsZ] using this⟩
 . have hx0 : ((p.l).map Pat.v)[i0]? = some (Pat.v a0) := by simp [hg0]
   have hm0 := List.mem_of_getElem? hg0
   obtain ⟨g1, g2, g3⟩ := hI0
   refine Wq.jmp (q72_9 ..) (fun _ => rfl) ?_
   simp only [stpF, sttF, List.length_map, is_lt_len hlt0, ix_42 hx0]
   refine Wq.ite (fun hle => ?_) (fun hle => ?_)
   . rw [show IntKind.i64.wrap (m - n0) = m - n0 from wrap_id (by omega)]
     refine Wq.cnt (ih a0 hm0) rfl ⟨by omega, by omega⟩ hA0 fun r H2 nx2 hA2 hs => ?_
     obtain ⟨k1, k2, k3⟩ := hs
     have hn := g2.1 (by omega)
     have hr := k2.1 (by omega)
     simp only [stpF, show IntKind.i64.wrap (n0 + r) = n0 + r from wrap_id (by omega), wrap_succ (show i0 < 9223372036854775807 by have := sm_lt hl; omega)]
     refine ih0 (n0 + r) H2 nx2 ⟨by omega, ⟨fun _ => by omega, fun _ => by omega⟩, fun hle2 => ?_⟩ hA2
     have e1 := k3 (by omega)
     have e2 := g3 hle
     rw [patsZ, Int.natCast_add] at e2
     omega
   . exact Wq.retR hA0 ⟨_, rfl, g1, g2, fun h => absurd h hle⟩
 . refine ⟨by omega, ⟨fun _ => by omega, fun _ => by omega⟩, fun _ => by omega⟩
theorem cnt_72 (p : Pat) (h : p.ok) : Cnt 72 p.v p.z := by
 refine Pat.ind (p := fun p => p.ok -> Cnt 72 p.v p.z) (fun p ih h => ?_) p h
 rw [Pat.ok_iff] at h
 exact cnt_72_a p h.2.1 h.2.2.1 fun a ha => ih a ha (h.2.2.2 a ha)
theorem cnt_126_a (p : TyS) (hs : sOk p.s) (hl : p.l.length < big) (ih : ∀ a, a ∈ p.l -> Cnt 126 a.v a.z) : Cnt 126 p.v p.z := fun m hm nx0 H0 H nx hA => by
 have hs' : p.s.length < 140737488355328 := hs
 rw [q126]
 refine Wq.natF' hA fun hA => ?_
 simp only [stpF, sttF, List.length_map, txt_size, q8 _ _ hs', show IntKind.i64.wrap (1 + ((p.s.length / 8 : Nat) : Int)) = 1 + ((p.s.length / 8 : Nat) : Int) from wrap_id (by omega)]
 have hz := p.z_eq
 refine Wq.eachW (p.l) (fun t (n : Int) => 1 <= n /\ bnd m n 1 /\ (n <= m -> n + (tysZ t : Int) = (p.z : Int))) (fun i n H nx => .jump (l126_9 (i64 m) (eptrV p.v) (i64 n) (i64 (i : Int)) H nx)) (fun n0 H0' nx0' hI0 hA0 => ?_) (fun i0 a0 t0 n0 H0' nx0' hg0 hlt0 hI0 hA0 ih0 => ?_) (1 + ((p.s.length / 8 : Nat) : Int)) _ _ ?_ hA
 . refine Wq.jmp (q126_9 ..) (fun _ => rfl) ?_
   simp only [stpF, sttF, List.length_map, not_lt_len]
   exact Wq.retR hA0 ⟨_, rfl, hI0.1, hI0.2.1, fun h => by have := hI0.2.2 h; simpa [tysZ] using this⟩
 . have hx0 : ((p.l).map TyS.v)[i0]? = some (TyS.v a0) := by simp [hg0]
   have hm0 := List.mem_of_getElem? hg0
   obtain ⟨g1, g2, g3⟩ := hI0
   refine Wq.jmp (q126_9 ..) (fun _ => rfl) ?_
   simp only [stpF, sttF, List.length_map, is_lt_len hlt0, ix_53 hx0]
   refine Wq.ite (fun hle => ?_) (fun hle => ?_)
   . rw [show IntKind.i64.wrap (m - n0) = m - n0 from wrap_id (by omega)]
     refine Wq.cnt (ih a0 hm0) rfl ⟨by omega, by omega⟩ hA0 fun r H2 nx2 hA2 hs => ?_
     obtain ⟨k1, k2, k3⟩ := hs
     have hn := g2.1 (by omega)
     have hr := k2.1 (by omega)
     simp only [stpF, show IntKind.i64.wrap (n0 + r) = n0 + r from wrap_id (by omega), wrap_succ (show i0 < 9223372036854775807 by have := sm_lt hl; omega)]
     refine ih0 (n0 + r) H2 nx2 ⟨by omega, ⟨fun _ => by omega, fun _ => by omega⟩, fun hle2 => ?_⟩ hA2
     have e1 := k3 (by omega)
     have e2 := g3 hle
     rw [tysZ, Int.natCast_add] at e2
     omega
   . exact Wq.retR hA0 ⟨_, rfl, g1, g2, fun h => absurd h hle⟩
 . refine ⟨by omega, ⟨fun _ => by omega, fun _ => by omega⟩, fun _ => by omega⟩
theorem cnt_126 (p : TyS) (h : p.ok) : Cnt 126 p.v p.z := by
 refine TyS.ind (p := fun p => p.ok -> Cnt 126 p.v p.z) (fun p ih h => ?_) p h
 rw [TyS.ok_iff] at h
 exact cnt_126_a p h.1 h.2.1 fun a ha => ih a ha (h.2.2 a ha)
theorem cnt_74_a (p : Con) (hs : sOk p.s) (hl : p.arg.length < big) (ih : ∀ a, a ∈ p.arg -> Cnt 126 a.v a.z) : Cnt 74 p.v p.z := fun m hm nx0 H0 H nx hA => by
 have hs' : p.s.length < 140737488355328 := hs
 rw [q74]
 refine Wq.natF' hA fun hA => ?_
 simp only [stpF, sttF, List.length_map, txt_size, q8 _ _ hs', show IntKind.i64.wrap (1 + ((p.s.length / 8 : Nat) : Int)) = 1 + ((p.s.length / 8 : Nat) : Int) from wrap_id (by omega)]
 have hz := show p.z = 1 + p.s.length / 8 + tysZ p.arg from rfl
 refine Wq.eachW (p.arg) (fun t (n : Int) => 1 <= n /\ bnd m n 1 /\ (n <= m -> n + (tysZ t : Int) = (p.z : Int))) (fun i n H nx => .jump (l74_9 (i64 m) (eptrV p.v) (i64 n) (i64 (i : Int)) H nx)) (fun n0 H0' nx0' hI0 hA0 => ?_) (fun i0 a0 t0 n0 H0' nx0' hg0 hlt0 hI0 hA0 ih0 => ?_) (1 + ((p.s.length / 8 : Nat) : Int)) _ _ ?_ hA
 . refine Wq.jmp (q74_9 ..) (fun _ => rfl) ?_
   simp only [stpF, sttF, List.length_map, not_lt_len]
   exact Wq.retR hA0 ⟨_, rfl, hI0.1, hI0.2.1, fun h => by have := hI0.2.2 h; simpa [tysZ] using this⟩
 . have hx0 : ((p.arg).map TyS.v)[i0]? = some (TyS.v a0) := by simp [hg0]
   have hm0 := List.mem_of_getElem? hg0
   obtain ⟨g1, g2, g3⟩ := hI0
   refine Wq.jmp (q74_9 ..) (fun _ => rfl) ?_
   simp only [stpF, sttF, List.length_map, is_lt_len hlt0, ix_53 hx0]
   refine Wq.ite (fun hle => ?_) (fun hle => ?_)
   . rw [show IntKind.i64.wrap (m - n0) = m - n0 from wrap_id (by omega)]
     refine Wq.cnt (ih a0 hm0) rfl ⟨by omega, by omega⟩ hA0 fun r H2 nx2 hA2 hs => ?_
     obtain ⟨k1, k2, k3⟩ := hs
     have hn := g2.1 (by omega)
     have hr := k2.1 (by omega)
     simp only [stpF, show IntKind.i64.wrap (n0 + r) = n0 + r from wrap_id (by omega), wrap_succ (show i0 < 9223372036854775807 by have := sm_lt hl; omega)]
     refine ih0 (n0 + r) H2 nx2 ⟨by omega, ⟨fun _ => by omega, fun _ => by omega⟩, fun hle2 => ?_⟩ hA2
     have e1 := k3 (by omega)
     have e2 := g3 hle
     rw [tysZ, Int.natCast_add] at e2
     omega
   . exact Wq.retR hA0 ⟨_, rfl, g1, g2, fun h => absurd h hle⟩
 . refine ⟨by omega, ⟨fun _ => by omega, fun _ => by omega⟩, fun _ => by omega⟩
theorem cnt_74 (p : Con) (h : p.ok) : Cnt 74 p.v p.z := cnt_74_a p h.1 h.2.1 fun a ha => cnt_126 a (h.2.2 a ha)
def CntD (v : Value) (z : Nat) : Prop := ∀ (m : Int), rgd m -> ∀ nx0 H0 H nx, Ag nx0 H0 nx H -> WqR P pl X0 (evT P pl (.call 41 [v, i64 m] false none H nx)) nx0 H0 (SdR m z)
theorem cnt_73_a (e : Exp) (h : e.ok) (hE : ∀ a, a ∈ e.l -> Cnt 73 a.v a.z) (hD : CntD (decsR e.d) (decsZ e.d)) : Cnt 73 e.v e.z := fun m hm nx0 H0 H nx hA => by
 rw [Exp.ok_iff] at h
 obtain ⟨hr, hs', ⟨hl, hl'⟩, ⟨hp, hp'⟩, hd, hd'⟩ := h
 have hs' : e.s.length < 140737488355328 := hs'
 have hz := e.z_eq
 rw [q73]
 refine Wq.natF' hA fun hA => ?_
 simp only [stpF, sttF, List.length_map, txt_size, q8 _ _ hs', show IntKind.i64.wrap (1 + ((e.s.length / 8 : Nat) : Int)) = 1 + ((e.s.length / 8 : Nat) : Int) from wrap_id (by omega)]
 have LE : ∀ (n : Int) H1 nx1, 1 <= n -> bnd m n 1 -> (n <= m -> n + (decsZ e.d : Int) = (e.z : Int)) -> Ag nx0 H0 nx1 H1 ->
  WqR P pl X0 (callQ (.call 41 [decsR e.d, i64 (IntKind.i64.wrap (m - n))] false none H1 nx1) (fun x H nx => optK (rdBin P H .add 3 false (some (i64 n)) (some x)) (fun y => .ret ⟨.ret y, false, H, nx⟩) .bad) panK) nx0 H0 (SzR m e.z) := by
  intro n H1 nx1 g1 g2 g3 hA1
  have hnb : n <= 1200000000000000000 := by
   by_cases h0 : 0 <= m
   . have := g2.1 h0; omega
   . have := g2.2 (by omega); omega
  rw [show IntKind.i64.wrap (m - n) = m - n from wrap_id (by omega)]
  refine Wq.callR rfl (hD (m - n) ⟨by omega, by omega⟩ nx0 H0 H1 nx1 hA1) fun u H2 nx2 hA2 hu => ?_
  obtain ⟨r, rfl, k1, k2, k3, k4⟩ := hu
  have hrb : r <= 1200000000000000000 := by
   by_cases h0 : 0 <= m - n
   . have := k2.1 h0; omega
   . have := k2.2 (by omega); omega
  simp only [stpF, show IntKind.i64.wrap (n + r) = n + r from wrap_id (by omega)]
  refine Wq.retR hA2 ⟨n + r, rfl, by omega, ⟨fun h0 => ?_, fun h0 => ?_⟩, fun hle => ?_⟩
  . by_cases h1 : n <= m
    . have := k2.1 (by omega); omega
    . have := k3 (by omega); have := g2.1 h0; omega
  . have := k3 (by omega); have := g2.2 h0; omega
  . have := k4 (by omega); have := g3 (by omega); omega
 have L17 : ∀ (n : Int) H1 nx1, 1 <= n -> bnd m n 1 -> (n <= m -> n + ((patsZ e.p : Int) + (decsZ e.d : Int)) = (e.z : Int)) -> Ag nx0 H0 nx1 H1 -> WqR P pl X0 (.jump (l73_17 (i64 m) (eptrV e.v) (i64 n) (i64 ((0 : Nat) : Int)) H1 nx1)) nx0 H0 (SzR m e.z) := by
  intro n H1 nx1 g1 g2 g3 hA1
  refine Wq.eachW (e.p) (fun t (n : Int) => 1 <= n /\ bnd m n 1 /\ (n <= m -> n + ((patsZ t : Int) + (decsZ e.d : Int)) = (e.z : Int))) (fun i n H nx => .jump (l73_17 (i64 m) (eptrV e.v) (i64 n) (i64 (i : Int)) H nx)) (fun n0 H0' nx0' hI0 hA0 => ?_) (fun i0 a0 t0 n0 H0' nx0' hg0 hlt0 hI0 hA0 ih0 => ?_) (n) _ _ ?_ hA1
  . refine Wq.jmp (q73_17 ..) (fun _ => rfl) ?_
    simp only [stpF, sttF, List.length_map, not_lt_len]
    exact LE n0 _ _ hI0.1 hI0.2.1 (fun h => by have := hI0.2.2 h; rw [patsZ] at this; omega) hA0
  . have hx0 : ((e.p).map Pat.v)[i0]? = some (Pat.v a0) := by simp [hg0]
    have hm0 := List.mem_of_getElem? hg0
    obtain ⟨g1, g2, g3⟩ := hI0
    refine Wq.jmp (q73_17 ..) (fun _ => rfl) ?_
    simp only [stpF, sttF, List.length_map, is_lt_len hlt0, ix_42 hx0]
    refine Wq.ite (fun hle => ?_) (fun hle => ?_)
    . rw [show IntKind.i64.wrap (m - n0) = m - n0 from wrap_id (by omega)]
      refine Wq.cnt (cnt_72 a0 (hp' a0 hm0)) rfl ⟨by omega, by omega⟩ hA0 fun r H2 nx2 hA2 hs => ?_
      obtain ⟨k1, k2, k3⟩ := hs
      have hn := g2.1 (by omega)
      have hr := k2.1 (by omega)
      simp only [stpF, show IntKind.i64.wrap (n0 + r) = n0 + r from wrap_id (by omega), wrap_succ (show i0 < 9223372036854775807 by have := sm_lt hp; omega)]
      refine ih0 (n0 + r) H2 nx2 ⟨by omega, ⟨fun _ => by omega, fun _ => by omega⟩, fun hle2 => ?_⟩ hA2
      have e1 := k3 (by omega)
      have e2 := g3 hle
      rw [patsZ, Int.natCast_add] at e2
      omega
    . exact LE n0 _ _ g1 g2 (fun h => absurd h hle) hA0
  . exact ⟨g1, g2, g3⟩
 refine Wq.eachW (e.l) (fun t (n : Int) => 1 <= n /\ bnd m n 1 /\ (n <= m -> n + ((expsZ t : Int) + ((patsZ e.p : Int) + (decsZ e.d : Int))) = (e.z : Int))) (fun i n H nx => .jump (l73_9 (i64 m) (eptrV e.v) (i64 n) (i64 (i : Int)) H nx)) (fun n0 H0' nx0' hI0 hA0 => ?_) (fun i0 a0 t0 n0 H0' nx0' hg0 hlt0 hI0 hA0 ih0 => ?_) (1 + ((e.s.length / 8 : Nat) : Int)) _ _ ?_ hA
 . refine Wq.jmp (q73_9 ..) (fun _ => rfl) ?_
   simp only [stpF, sttF, List.length_map, not_lt_len]
   exact L17 n0 _ _ hI0.1 hI0.2.1 (fun h => by have := hI0.2.2 h; rw [expsZ] at this; omega) hA0
 . have hx0 : ((e.l).map Exp.v)[i0]? = some (Exp.v a0) := by simp [hg0]
   have hm0 := List.mem_of_getElem? hg0
   obtain ⟨g1, g2, g3⟩ := hI0
   refine Wq.jmp (q73_9 ..) (fun _ => rfl) ?_
   simp only [stpF, sttF, List.length_map, is_lt_len hlt0, ix_41 hx0]
   refine Wq.ite (fun hle => ?_) (fun hle => ?_)
   . rw [show IntKind.i64.wrap (m - n0) = m - n0 from wrap_id (by omega)]
     refine Wq.cnt (hE a0 hm0) rfl ⟨by omega, by omega⟩ hA0 fun r H2 nx2 hA2 hs => ?_
     obtain ⟨k1, k2, k3⟩ := hs
     have hn := g2.1 (by omega)
     have hr := k2.1 (by omega)
     simp only [stpF, show IntKind.i64.wrap (n0 + r) = n0 + r from wrap_id (by omega), wrap_succ (show i0 < 9223372036854775807 by have := sm_lt hl; omega)]
     refine ih0 (n0 + r) H2 nx2 ⟨by omega, ⟨fun _ => by omega, fun _ => by omega⟩, fun hle2 => ?_⟩ hA2
     have e1 := k3 (by omega)
     have e2 := g3 hle
     rw [expsZ, Int.natCast_add] at e2
     omega
   . exact L17 n0 _ _ g1 g2 (fun h => absurd h hle) hA0
 . refine ⟨by omega, ⟨fun _ => by omega, fun _ => by omega⟩, fun _ => by omega⟩
end
end Go.Proofs.YthjhonhhbddhkaaGreatDoor
/- How many parts declarations have. -/
namespace Go.Proofs.YthjhonhhbddhkaaGreatDoor
open Go.Ev Go.RowKit
noncomputable section
set_option maxRecDepth 100000
set_option linter.unusedVariables false
set_option linter.unusedSimpArgs false
variable {nx0 : Nat} {H0 : T OB}
theorem cntD_41 (l : List Dec) (hl : l.length < big) (hok : ∀ d, d ∈ l -> d.ok) (hE : ∀ d, d ∈ l -> Cnt 73 d.e.v d.e.z) (hF : ∀ d, d ∈ l -> ∀ f, f ∈ d.f -> Cnt 73 f.b.v f.b.z) : CntD (decsR l) (decsZ l) := fun m hm nx0 H0 H nx hA => by
 rw [q41]
 by_cases hm0 : m < 0
 . cases l with
   | nil =>
     refine Wq.jmp (q41_9 ..) (fun _ => rfl) ?_
     simp only [stpF, sttF, List.length_map]
     exact Wq.retR hA ⟨0, rfl, by omega, ⟨fun h => by omega, fun h => by omega⟩, fun _ => rfl, fun h => by omega⟩
   | cons d l =>
     have e1 : decide ((0 : Int) < ((d :: l).length : Int)) = true := by simp
     have e2 : decide ((0 : Int) <= m) = false := by simp; omega
     refine Wq.jmp (q41_9 ..) (fun _ => rfl) ?_
     simp only [stpF, sttF, List.length_map, e1, e2]
     exact Wq.retR hA ⟨0, rfl, by omega, ⟨fun h => by omega, fun h => by omega⟩, fun _ => rfl, fun h => by omega⟩
 have hm5 := hm.2
 refine Wq.eachW (l) (fun t (n : Int) => 0 <= n /\ n <= 8 * 35184372088832 + 2251799813685248 * m /\ (n <= m -> n + (decsZ t : Int) = (decsZ l : Int))) (fun i n H nx => .jump (l41_9 (decsR l) (i64 m) (i64 n) (i64 (i : Int)) H nx)) (fun n0 H0' nx0' hI0 hA0 => ?_) (fun i0 a0 t0 n0 H0' nx0' hg0 hlt0 hI0 hA0 ih0 => ?_) (0) _ _ ?_ hA
 . refine Wq.jmp (q41_9 ..) (fun _ => rfl) ?_
   simp only [stpF, sttF, List.length_map, not_lt_len]
   exact Wq.retR hA0 ⟨n0, rfl, hI0.1, ⟨fun h => by have := hI0.2.1; omega, fun h => by omega⟩, fun h => by omega, fun h => by have := hI0.2.2 h; rw [decsZ] at this; omega⟩
 . have hx0 : ((l).map Dec.v)[i0]? = some (Dec.v a0) := by simp [hg0]
   have hm0' := List.mem_of_getElem? hg0
   obtain ⟨g1, g2, g3⟩ := hI0
   refine Wq.jmp (q41_9 ..) (fun _ => rfl) ?_
   simp only [stpF, sttF, List.length_map, is_lt_len hlt0, ix_24 hx0]
   refine Wq.ite (fun hle => ?_) (fun hle => ?_)
   . have hok0 := (Dec.ok_iff a0).1 (hok a0 hm0')
     obtain ⟨hp, he, ⟨hfl, hf⟩, hx, hc⟩ := hok0
     have hzd := a0.z_eq
     have hzx : a0.x.z = strsZ a0.x.vars + a0.x.s.length / 8 + consZ a0.x.cons := rfl
     refine Wq.var zero_57 sz_57 rfl (nDec _) (oDec _) hA0 fun H2 nx2 hA2 => ?_
     rw [show IntKind.i64.wrap (n0 + 1) = n0 + 1 from wrap_id (by omega), show IntKind.i64.wrap (m - n0) = m - n0 from wrap_id (by omega)]
     refine Wq.cnt (cnt_72 a0.p hp) rfl ⟨by omega, by omega⟩ hA2 fun r1 H3 nx3 hA3 hs1 => ?_
     obtain ⟨k1, k2, k3⟩ := hs1
     have hr1 := k2.1 (by omega)
     simp only [stpF, sttF, List.length_map, show IntKind.i64.wrap (n0 + 1 + r1) = n0 + 1 + r1 from wrap_id (by omega)]
     rw [show IntKind.i64.wrap (m - (n0 + 1 + r1)) = m - (n0 + 1 + r1) from wrap_id (by omega)]
     refine Wq.cnt (hE a0 hm0') rfl ⟨by omega, by omega⟩ hA3 fun r2 H4 nx4 hA4 hs2 => ?_
     obtain ⟨j1, j2, j3⟩ := hs2
     have hr2 : r2 <= 35184372088832 + 2251799813685248 * 500 := by
      by_cases h0 : 0 <= m - (n0 + 1 + r1)
      . have := j2.1 h0; omega
      . have := j2.2 (by omega); omega
     have hb2 : n0 + 1 + r1 + r2 <= 3 * 35184372088832 + 2251799813685248 * m := by
      by_cases h0 : 0 <= m - (n0 + 1 + r1)
      . have := j2.1 h0; omega
      . have := j2.2 (by omega); omega
     simp only [stpF, show IntKind.i64.wrap (n0 + 1 + r1 + r2) = n0 + 1 + r1 + r2 from wrap_id (by omega)]
     have hz2 : n0 + 1 + r1 + r2 <= m -> n0 + 1 + r1 + r2 + ((fnsZ a0.f : Int) + ((a0.x.z : Int) + ((a0.c.z : Int) + (decsZ t0 : Int)))) = (decsZ l : Int) := by
      intro h
      have e1 := k3 (by omega)
      have e2 := j3 (by omega)
      have e3 := g3 (by omega)
      rw [decsZ] at e3
      omega
     have L9 : ∀ (n : Int) H1 nx1, 0 <= n -> n <= 8 * 35184372088832 + 2251799813685248 * m -> (n <= m -> n + (decsZ t0 : Int) = (decsZ l : Int)) -> Ag nx0 H0 nx1 H1 -> WqR P pl X0 (.jump (l41_9 (decsR l) (i64 m) (i64 n) (i64 (IntKind.i64.wrap ((i0 : Int) + 1))) H1 nx1)) nx0 H0 (SdR m (decsZ l)) := by
      intro n H1 nx1 q1 q2 q3 hA1
      rw [wrap_succ (show i0 < 9223372036854775807 by have := sm_lt hl; omega)]
      exact ih0 n H1 nx1 ⟨q1, q2, q3⟩ hA1
     have L47 : ∀ (n : Int) H1 nx1, 0 <= n -> n <= 5 * 35184372088832 + 2251799813685248 * m -> (n <= m -> n + ((consZ a0.x.cons : Int) + (decsZ t0 : Int)) = (decsZ l : Int)) -> Ag nx0 H0 nx1 H1 -> WqR P pl X0 (.jump (l41_47 (decsR l) (i64 m) (i64 n) (i64 (i0 : Int)) (eptrV a0.v) (i64 ((0 : Nat) : Int)) H1 nx1)) nx0 H0 (SdR m (decsZ l)) := by
      intro n H1 nx1 q1 q2 q3 hA1
      refine Wq.eachW (a0.x.cons) (fun t (n : Int) => 0 <= n /\ n <= 5 * 35184372088832 + 2251799813685248 * m /\ (n <= m -> n + ((consZ t : Int) + (decsZ t0 : Int)) = (decsZ l : Int))) (fun i n H nx => .jump (l41_47 (decsR l) (i64 m) (i64 n) (i64 (i0 : Int)) (eptrV a0.v) (i64 (i : Int)) H nx)) (fun n8 H8' nx8' hI8 hA8 => ?_) (fun i8 a8 t8 n8 H8' nx8' hg8 hlt8 hI8 hA8 ih8 => ?_) (n) _ _ ?_ hA1
      . refine Wq.jmp (q41_47 ..) (fun _ => rfl) ?_
        simp only [stpF, sttF, List.length_map, not_lt_len]
        exact L9 n8 _ _ hI8.1 (by omega) (fun h => by have := hI8.2.2 h; rw [consZ] at this; omega) hA8
      . have hx8 : ((a0.x.cons).map Con.v)[i8]? = some (Con.v a8) := by simp [hg8]
        have hm8 := List.mem_of_getElem? hg8
        obtain ⟨p1, p2, p3⟩ := hI8
        refine Wq.jmp (q41_47 ..) (fun _ => rfl) ?_
        simp only [stpF, sttF, List.length_map, is_lt_len hlt8, ix_50 hx8]
        refine Wq.ite (fun hle => ?_) (fun hle => ?_)
        . rw [show IntKind.i64.wrap (m - n8) = m - n8 from wrap_id (by omega)]
          refine Wq.cnt (cnt_74 a8 (hx.2.2.2 a8 hm8)) rfl ⟨by omega, by omega⟩ hA8 fun r H5 nx5 hA5 hs => ?_
          obtain ⟨k1, k2, k3⟩ := hs
          have hr := k2.1 (by omega)
          simp only [stpF, show IntKind.i64.wrap (n8 + r) = n8 + r from wrap_id (by omega), wrap_succ (show i8 < 9223372036854775807 by have := sm_lt hx.2.2.1; omega)]
          refine ih8 (n8 + r) H5 nx5 ⟨by omega, by omega, fun hle2 => ?_⟩ hA5
          have e1 := k3 (by omega)
          have e2 := p3 hle
          rw [consZ, Int.natCast_add] at e2
          omega
        . exact L9 n8 _ _ p1 (by omega) (fun h => absurd h hle) hA8
      . exact ⟨q1, q2, q3⟩
     have L37e : ∀ (n : Int) H1 nx1, 0 <= n -> n <= 3 * 35184372088832 + 2251799813685248 * m -> (n <= m -> n + (((a0.x.s.length / 8 : Nat) : Int) + ((consZ a0.x.cons : Int) + ((a0.c.z : Int) + (decsZ t0 : Int)))) = (decsZ l : Int)) -> Ag nx0 H0 nx1 H1 ->
      WqR P pl X0 (callQ (.call 74 [a0.c.v, i64 (IntKind.i64.wrap (m - n))] false none H1 nx1) (fun x H nx => optK (rdBin P H .add 3 false (some (i64 (IntKind.i64.wrap (n + ((a0.x.s.length / 8 : Nat) : Int))))) (some x)) (fun y => .jump (l41_47 (decsR l) (i64 m) y (i64 (i0 : Int)) (eptrV a0.v) (i64 ((0 : Nat) : Int)) H nx)) .bad) panK) nx0 H0 (SdR m (decsZ l)) := by
      intro n H1 nx1 q1 q2 q3 hA1
      have hxs : a0.x.s.length < 140737488355328 := hx.2.1
      rw [show IntKind.i64.wrap (m - n) = m - n from wrap_id (by omega), show IntKind.i64.wrap (n + ((a0.x.s.length / 8 : Nat) : Int)) = n + ((a0.x.s.length / 8 : Nat) : Int) from wrap_id (by omega)]
      refine Wq.cnt (cnt_74 a0.c hc) rfl ⟨by omega, by omega⟩ hA1 fun r H5 nx5 hA5 hs => ?_
      obtain ⟨k1, k2, k3⟩ := hs
      have hrb : r <= 35184372088832 + 2251799813685248 * 500 := by
       by_cases h0 : 0 <= m - n
       . have := k2.1 h0; omega
       . have := k2.2 (by omega); omega
      simp only [stpF, show IntKind.i64.wrap (n + ((a0.x.s.length / 8 : Nat) : Int) + r) = n + ((a0.x.s.length / 8 : Nat) : Int) + r from wrap_id (by omega)]
      refine L47 _ _ _ (by omega) ?_ (fun h => ?_) hA5
      . by_cases h0 : 0 <= m - n
        . have := k2.1 h0; omega
        . have := k2.2 (by omega); omega
      . have e1 := k3 (by omega)
        have e2 := q3 (by omega)
        omega
     have L37 : ∀ (n : Int) H1 nx1, 0 <= n -> n <= 3 * 35184372088832 + 2251799813685248 * m -> (n <= m -> n + ((a0.x.z : Int) + ((a0.c.z : Int) + (decsZ t0 : Int))) = (decsZ l : Int)) -> Ag nx0 H0 nx1 H1 -> WqR P pl X0 (.jump (l41_37 (decsR l) (i64 m) (i64 n) (i64 (i0 : Int)) (eptrV a0.v) (i64 ((0 : Nat) : Int)) H1 nx1)) nx0 H0 (SdR m (decsZ l)) := by
      intro n H1 nx1 q1 q2 q3 hA1
      have hxs : a0.x.s.length < 140737488355328 := hx.2.1
      refine Wq.eachW (a0.x.vars) (fun t (n : Int) => 0 <= n /\ n <= 3 * 35184372088832 + 2251799813685248 * m /\ (n <= m -> n + ((strsZ t : Int) + (((a0.x.s.length / 8 : Nat) : Int) + ((consZ a0.x.cons : Int) + ((a0.c.z : Int) + (decsZ t0 : Int))))) = (decsZ l : Int))) (fun i n H nx => .jump (l41_37 (decsR l) (i64 m) (i64 n) (i64 (i0 : Int)) (eptrV a0.v) (i64 (i : Int)) H nx)) (fun n8 H8' nx8' hI8 hA8 => ?_) (fun i8 a8 t8 n8 H8' nx8' hg8 hlt8 hI8 hA8 ih8 => ?_) (n) _ _ ?_ hA1
      . refine Wq.jmp (q41_37 ..) (fun _ => rfl) ?_
        simp only [stpF, sttF, List.length_map, not_lt_len, txt_size, q8 _ _ hxs, vEq_self, Bool.and_self, bK_true]
        exact L37e n8 _ _ hI8.1 hI8.2.1 (fun h => by have := hI8.2.2 h; rw [strsZ] at this; omega) hA8
      . have hx8 : ((a0.x.vars).map txt)[i8]? = some (txt a8) := by simp [hg8]
        have hm8 := List.mem_of_getElem? hg8
        obtain ⟨p1, p2, p3⟩ := hI8
        refine Wq.jmp (q41_37 ..) (fun _ => rfl) ?_
        simp only [stpF, sttF, List.length_map, is_lt_len hlt8, ix_49 hx8, txt_size, q8 _ _ hxs, vEq_self, Bool.and_self, bK_true]
        refine Wq.ite (fun hle => ?_) (fun hle => ?_)
        . have h7 := hx.1.2 a8 hm8
          have h8 : a8.length < 140737488355328 := h7
          simp only [stpF, txt_size, q8 _ _ h8]
          rw [show IntKind.i64.wrap (n8 + 1) = n8 + 1 from wrap_id (by omega)]
          rw [show IntKind.i64.wrap (n8 + 1 + ((a8.length / 8 : Nat) : Int)) = n8 + 1 + ((a8.length / 8 : Nat) : Int) from wrap_id (by omega), wrap_succ (show i8 < 9223372036854775807 by have := sm_lt hx.1.1; omega)]
          refine ih8 _ _ _ ⟨by omega, by omega, fun hle2 => ?_⟩ hA8
          have e2 := p3 hle
          rw [strsZ] at e2
          omega
        . exact L37e n8 _ _ p1 p2 (fun h => absurd h hle) hA8
      . exact ⟨q1, q2, fun h => by have := q3 h; omega⟩
     refine Wq.eachW (a0.f) (fun t (n : Int) => 0 <= n /\ n <= 3 * 35184372088832 + 2251799813685248 * m /\ (n <= m -> n + ((fnsZ t : Int) + ((a0.x.z : Int) + ((a0.c.z : Int) + (decsZ t0 : Int)))) = (decsZ l : Int))) (fun i n H nx => .jump (l41_21 (decsR l) (i64 m) (i64 n) (i64 (i0 : Int)) (eptrV a0.v) (i64 (i : Int)) H nx)) (fun n8 H8' nx8' hI8 hA8 => ?_) (fun i8 a8 t8 n8 H8' nx8' hg8 hlt8 hI8 hA8 ih8 => ?_) (n0 + 1 + r1 + r2) _ _ ?_ hA4
     . refine Wq.jmp (q41_21 ..) (fun _ => rfl) ?_
       simp only [stpF, sttF, List.length_map, not_lt_len]
       exact L37 n8 _ _ hI8.1 hI8.2.1 (fun h => by have := hI8.2.2 h; rw [fnsZ] at this; omega) hA8
     . have hx8 : ((a0.f).map Fn.v)[i8]? = some (Fn.v a8) := by simp [hg8]
       have hm8 := List.mem_of_getElem? hg8
       obtain ⟨p1, p2, p3⟩ := hI8
       refine Wq.jmp (q41_21 ..) (fun _ => rfl) ?_
       simp only [stpF, sttF, List.length_map, is_lt_len hlt8, ix_48 hx8]
       refine Wq.ite (fun hle => ?_) (fun hle => ?_)
       . have hfa := (Fn.ok_iff a8).1 (hf a8 hm8)
         have h8 : a8.s.length < 140737488355328 := hfa.1
         have hzf := a8.z_eq
         simp only [stpF, txt_size, q8 _ _ h8]
         rw [show IntKind.i64.wrap (n8 + 1) = n8 + 1 from wrap_id (by omega), show IntKind.i64.wrap (m - n8) = m - n8 from wrap_id (by omega)]
         rw [show IntKind.i64.wrap (n8 + 1 + ((a8.s.length / 8 : Nat) : Int)) = n8 + 1 + ((a8.s.length / 8 : Nat) : Int) from wrap_id (by omega)]
         refine Wq.cnt (hF a0 hm0' a8 hm8) rfl ⟨by omega, by omega⟩ hA8 fun r H5 nx5 hA5 hs => ?_
         obtain ⟨k1, k2, k3⟩ := hs
         have hr := k2.1 (by omega)
         simp only [stpF, show IntKind.i64.wrap (n8 + 1 + ((a8.s.length / 8 : Nat) : Int) + r) = n8 + 1 + ((a8.s.length / 8 : Nat) : Int) + r from wrap_id (by omega), vEq_self, Bool.and_self, bK_true]
         have hz8 : n8 + 1 + ((a8.s.length / 8 : Nat) : Int) + r <= m -> n8 + 1 + ((a8.s.length / 8 : Nat) : Int) + r + ((patsZ a8.p : Int) + ((fnsZ t8 : Int) + ((a0.x.z : Int) + ((a0.c.z : Int) + (decsZ t0 : Int))))) = (decsZ l : Int) := by
          intro h
          have e1 := k3 (by omega)
          have e2 := p3 hle
          rw [fnsZ] at e2
          omega
         refine Wq.eachW (a8.p) (fun t (n : Int) => 0 <= n /\ n <= 3 * 35184372088832 + 2251799813685248 * m /\ (n <= m -> n + ((patsZ t : Int) + ((fnsZ t8 : Int) + ((a0.x.z : Int) + ((a0.c.z : Int) + (decsZ t0 : Int))))) = (decsZ l : Int))) (fun i n H nx => .jump (l41_29 (decsR l) (i64 m) (i64 n) (i64 (i0 : Int)) (eptrV a0.v) (i64 (i8 : Int)) (i64 (i : Int)) H nx)) (fun n9 H9' nx9' hI9 hA9 => ?_) (fun i9 a9 t9 n9 H9' nx9' hg9 hlt9 hI9 hA9 ih9 => ?_) (n8 + 1 + ((a8.s.length / 8 : Nat) : Int) + r) _ _ ?_ hA5
         . refine Wq.jmp (q41_29 ..) (fun _ => rfl) ?_
           simp only [stpF, sttF, List.length_map, not_lt_len, ix_48 hx8]
           simp only [stpF, wrap_succ (show i8 < 9223372036854775807 by have := sm_lt hfl; omega)]
           exact ih8 n9 _ _ ⟨hI9.1, hI9.2.1, fun h => by have := hI9.2.2 h; rw [patsZ] at this; omega⟩ hA9
         . have hx9 : ((a8.p).map Pat.v)[i9]? = some (Pat.v a9) := by simp [hg9]
           have hm9 := List.mem_of_getElem? hg9
           obtain ⟨o1, o2, o3⟩ := hI9
           refine Wq.jmp (q41_29 ..) (fun _ => rfl) ?_
           simp only [stpF, sttF, List.length_map, is_lt_len hlt9, ix_42 hx9, ix_48 hx8]
           refine Wq.ite (fun hle => ?_) (fun hle => ?_)
           . rw [show IntKind.i64.wrap (m - n9) = m - n9 from wrap_id (by omega)]
             refine Wq.cnt (cnt_72 a9 (hfa.2.1.2 a9 hm9)) rfl ⟨by omega, by omega⟩ hA9 fun r H6 nx6 hA6 hs => ?_
             obtain ⟨k1, k2, k3⟩ := hs
             have hr := k2.1 (by omega)
             simp only [stpF, show IntKind.i64.wrap (n9 + r) = n9 + r from wrap_id (by omega), wrap_succ (show i9 < 9223372036854775807 by have := sm_lt hfa.2.1.1; omega)]
             refine ih9 (n9 + r) H6 nx6 ⟨by omega, by omega, fun hle2 => ?_⟩ hA6
             have e1 := k3 (by omega)
             have e2 := o3 hle
             rw [patsZ, Int.natCast_add] at e2
             omega
           . simp only [stpF, wrap_succ (show i8 < 9223372036854775807 by have := sm_lt hfl; omega)]
             exact ih8 n9 _ _ ⟨o1, o2, fun h => absurd h hle⟩ hA9
         . exact ⟨by omega, by omega, hz8⟩
       . exact L37 n8 _ _ p1 p2 (fun h => absurd h hle) hA8
     . exact ⟨by omega, hb2, hz2⟩
   . exact Wq.retR hA0 ⟨n0, rfl, by omega, ⟨fun h => by omega, fun h => by omega⟩, fun h => by omega, fun h => by omega⟩
 . exact ⟨by omega, by omega, fun _ => by omega⟩
theorem both_73 : (∀ e : Exp, e.ok -> Cnt 73 e.v e.z) /\ ∀ d : Dec, d.ok -> Cnt 73 d.e.v d.e.z /\ ∀ f, f ∈ d.f -> Cnt 73 f.b.v f.b.z := by
 have A : ∀ e : Exp, (∀ c, c ∈ e.l -> c.ok -> Cnt 73 c.v c.z) -> (∀ d, d ∈ e.d -> d.ok -> Cnt 73 d.e.v d.e.z /\ ∀ f, f ∈ d.f -> Cnt 73 f.b.v f.b.z) -> e.ok -> Cnt 73 e.v e.z := fun e h1 h2 h => by
  have h' := (Exp.ok_iff e).1 h
  exact cnt_73_a e h (fun a ha => h1 a ha (h'.2.2.1.2 a ha)) (cntD_41 e.d h'.2.2.2.2.1 h'.2.2.2.2.2 (fun d hd => (h2 d hd (h'.2.2.2.2.2 d hd)).1) fun d hd => (h2 d hd (h'.2.2.2.2.2 d hd)).2)
 have B : ∀ d : Dec, (d.e.ok -> Cnt 73 d.e.v d.e.z) -> (∀ f, f ∈ d.f -> f.b.ok -> Cnt 73 f.b.v f.b.z) -> d.ok -> Cnt 73 d.e.v d.e.z /\ ∀ f, f ∈ d.f -> Cnt 73 f.b.v f.b.z := fun d h1 h2 h => by
  have h' := (Dec.ok_iff d).1 h
  exact ⟨h1 h'.2.1, fun f hf => h2 f hf ((Fn.ok_iff f).1 (h'.2.2.1.2 f hf)).2.2⟩
 exact ⟨Exp.ind A B, Dec.ind A B⟩
theorem cntD (l : List Dec) (hl : l.length < big) (h : ∀ d, d ∈ l -> d.ok) : CntD (decsR l) (decsZ l) := cntD_41 l hl h (fun d hd => (both_73.2 d (h d hd)).1) fun d hd => (both_73.2 d (h d hd)).2
end
end Go.Proofs.YthjhonhhbddhkaaGreatDoor
/- The printer: what it holds, and what is put. -/
namespace Go.Proofs.YthjhonhhbddhkaaGreatDoor
open Go.Ev Go.RowKit
noncomputable section
set_option maxRecDepth 100000
set_option linter.unusedVariables false
set_option linter.unusedSimpArgs false
variable {nx0 : Nat} {H0 : T OB}
abbrev ptr (b : Nat) : Value := .pointer (some ⟨b, 0, none⟩)
abbrev tokC (l : List Tok) : List Value := l.flatMap Tok.c
theorem tokC_len (l : List Tok) : (tokC l).length = l.length * 4 := by
 induction l with
 | nil => rfl
 | cons a l ih =>
   show (a.c ++ tokC l).length = _
   rw [List.length_append, ih, List.length_cons]
   show 4 + l.length * 4 = (l.length + 1) * 4
   omega
def TS (nx0 : Nat) (H : T OB) (nx : Nat) (l : List Tok) (sl : Value) : Prop := (l = [] /\ sl = .slice none 0 0) \/ ∃ b, nx0 <= b /\ b < nx /\ IsB H b (tokC l) 31 /\ sl = .slice (some ⟨b, 0, none⟩) l.length unk
def Out (fr : Nat -> List Value -> TypeId -> Prop) (bp nx0 : Nat) (H : T OB) (nx : Nat) (l : List Tok) (b : Bool) : Prop := nx0 <= bp /\ bp < nx /\ ∃ sl, IsB H bp [sl, .bool b] 116 /\ TS nx0 H nx l sl /\ (∀ c o n u, sl = .slice (some ⟨c, o, none⟩) n u -> c ≠ bp) /\ ∀ x l e, fr x l e -> x < nx /\ IsB H x l e /\ x ≠ bp /\ ∀ c o n u, sl = .slice (some ⟨c, o, none⟩) n u -> c ≠ x
theorem Out.keep {fr : Nat -> List Value -> TypeId -> Prop} {bp nx nx' : Nat} {H H' : T OB} {l : List Tok} {b : Bool} (h : Out fr bp nx0 H nx l b) (hn : nx <= nx') (hk : ∀ b l e, b < nx -> IsB H b l e -> IsB H' b l e) : Out fr bp nx0 H' nx' l b := by
 obtain ⟨h1, h2, sl, h3, h4, h5, h6⟩ := h
 refine ⟨h1, by omega, sl, hk _ _ _ h2 h3, ?_, h5, fun x l e hx => by
  obtain ⟨a, b, c⟩ := h6 x l e hx
  exact ⟨by omega, hk _ _ _ a b, c⟩⟩
 rcases h4 with h | ⟨c, q1, q2, q3, q4⟩
 . exact .inl h
 . exact .inr ⟨c, q1, by omega, hk _ _ _ q2 q3, q4⟩
def Go (l0 : List Tok) (b0 : Bool) (ok : Bool) (ts : List Tok) (n : Nat) (l : List Tok) (b : Bool) : Prop := b = (b0 || !ok) /\ (b = false -> l = l0 ++ ts) /\ l.length <= l0.length + n
theorem Go.start (l : List Tok) (b : Bool) : Go l b true [] 0 l b := ⟨by simp, fun _ => by simp, by omega⟩
theorem Go.trans {l0 l1 l2 ts1 ts2 : List Tok} {b0 b1 b2 ok1 ok2 : Bool} {n1 n2 : Nat} (h1 : Go l0 b0 ok1 ts1 n1 l1 b1) (h2 : Go l1 b1 ok2 ts2 n2 l2 b2) : Go l0 b0 (ok1 && ok2) (ts1 ++ ts2) (n1 + n2) l2 b2 := by
 obtain ⟨a1, a2, a3⟩ := h1
 obtain ⟨c1, c2, c3⟩ := h2
 refine ⟨by rw [c1, a1]; cases b0 <;> cases ok1 <;> cases ok2 <;> rfl, fun h => ?_, by omega⟩
 rw [c2 h]
 have : b1 = false := by rw [h] at c1; cases b1 with
  | false => rfl
  | true => simp at c1
 rw [a2 this, List.append_assoc]
def St (fr : Nat -> List Value -> TypeId -> Prop) (bp nx0 : Nat) (H0 : T OB) (l0 : List Tok) (b0 : Bool) (ok : Bool) (ts : List Tok) (n : Nat) (H : T OB) (nx : Nat) : Prop := TabIn nx0 H0 /\ Ag nx0 H0 nx H /\ ∃ l b, Out fr bp nx0 H nx l b /\ Go l0 b0 ok ts n l b
variable {fr : Nat -> List Value -> TypeId -> Prop} {bp : Nat} {l0 : List Tok} {b0 : Bool}
theorem St.keep {ok : Bool} {ts : List Tok} {n nx nx' : Nat} {H H' : T OB} (h : St fr bp nx0 H0 l0 b0 ok ts n H nx) (hA : Ag nx H nx' H') : St fr bp nx0 H0 l0 b0 ok ts n H' nx' := by
 obtain ⟨h0, h1, l, b, h2, h3⟩ := h
 exact ⟨h0, h1.trans hA, l, b, h2.keep hA.1 fun b l e hb hi => hi.ag hA hb, h3⟩
theorem St.keep' {ok : Bool} {ts : List Tok} {n nx nx' : Nat} {H H' : T OB} (h : St fr bp nx0 H0 l0 b0 ok ts n H nx) (hA : Ag nx0 H0 nx' H') (hn : nx <= nx') (hk : ∀ b l e, b < nx -> IsB H b l e -> IsB H' b l e) : St fr bp nx0 H0 l0 b0 ok ts n H' nx' := by
 obtain ⟨h0, h1, l, b, h2, h3⟩ := h
 exact ⟨h0, hA, l, b, h2.keep hn hk, h3⟩
theorem St.mono {ok ok' : Bool} {ts ts' : List Tok} {n n' nx : Nat} {H : T OB} (h : St fr bp nx0 H0 l0 b0 ok ts n H nx) (e : ok = ok') (et : ok' = true -> ts = ts') (en : n <= n') : St fr bp nx0 H0 l0 b0 ok' ts' n' H nx := by
 obtain ⟨h0, h1, l, b, h2, h3, h4, h5⟩ := h
 refine ⟨h0, h1, l, b, h2, by rw [h3, e], fun q => ?_, by omega⟩
 have : ok' = true := by
  rw [q, e] at h3
  cases ok' with
  | true => rfl
  | false => cases b0 <;> cases h3
 rw [h4 q, et this]
theorem St.skip {ok ok' : Bool} {ts ts' : List Tok} {n n' nx : Nat} {H : T OB} (h : St fr bp nx0 H0 l0 b0 ok ts n H nx) (hb : (b0 || !ok) = true) (e : ok = false -> ok' = false) (en : n <= n') : St fr bp nx0 H0 l0 b0 ok' ts' n' H nx := by
 obtain ⟨h0, h1, l, b, h2, h3, h4, h5⟩ := h
 refine ⟨h0, h1, l, b, h2, ?_, fun q => ?_, by omega⟩
 . rw [h3, hb]
   cases b0 with
   | true => rfl
   | false => rw [e (by simpa using hb)]; rfl
 . rw [h3, hb] at q; cases q
abbrev Done (fr : Nat -> List Value -> TypeId -> Prop) (bp nx0 : Nat) (H0 : T OB) (l0 : List Tok) (b0 : Bool) (ok : Bool) (ts : List Tok) (n : Nat) : Value -> T OB -> Nat -> Prop := fun u H nx => u = .tuple ⟨[]⟩ /\ St fr bp nx0 H0 l0 b0 ok ts n H nx
theorem Wq.done {ok ok' : Bool} {ts ts' : List Tok} {n n' nx : Nat} {H : T OB} (h : St fr bp nx0 H0 l0 b0 ok ts n H nx) (e : ok = ok') (et : ok' = true -> ts = ts') (en : n <= n') : WqR P pl X0 (.ret ⟨.ret (.tuple ⟨[]⟩), false, H, nx⟩) nx0 H0 (Done fr bp nx0 H0 l0 b0 ok' ts' n') := Wq.retR h.2.1 ⟨rfl, h.mono e et en⟩
def Put (f : FuncId) (args : List Value) (ok : Bool) (ts : List Tok) (n : Nat) : Prop := ∀ fr bp nx0 H0 l0 b0 H nx, l0.length + n <= 100000 -> St fr bp nx0 H0 l0 b0 true [] 0 H nx -> WqR P pl X0 (evT P pl (.call f (ptr bp :: args) false none H nx)) nx0 H0 (Done fr bp nx0 H0 l0 b0 ok ts n)
variable {ok : Bool} {ts : List Tok} {n nx : Nat} {H : T OB} {R : Value -> T OB -> Nat -> Prop}
theorem Wq.putS {f : FuncId} {args : List Value} {ok' : Bool} {ts' : List Tok} {n' : Nat} {k p : Value -> T OB -> Nat -> Q} (h : Put f args ok' ts' n') (hx : X0 f (ptr bp :: args) = none) (hS : St fr bp nx0 H0 l0 b0 ok ts n H nx) (hl : l0.length + (n + n') <= 100000)
 (hk : ∀ u H' nx', St fr bp nx0 H0 l0 b0 (ok && ok') (ts ++ ts') (n + n') H' nx' -> WqR P pl X0 (k u H' nx') nx0 H0 R) : WqR P pl X0 (callQ (.call f (ptr bp :: args) false none H nx) k p) nx0 H0 R := by
 obtain ⟨h0, h1, l, b, h2, h3⟩ := hS
 refine Wq.callR hx (h fr bp nx0 H0 l b H nx (by have := h3.2.2; omega) ⟨h0, h1, l, b, h2, .start l b⟩) fun u H' nx' hA hu => ?_
 obtain ⟨_, q0, q1, l', b', q2, q3⟩ := hu
 exact hk u H' nx' ⟨q0, q1, l', b', q2, h3.trans q3⟩
theorem Wq.callS {f : FuncId} {args : List Value} {u : Value} {k p : Value -> T OB -> Nat -> Q} (h : P0 f args u) (hS : St fr bp nx0 H0 l0 b0 ok ts n H nx) (hk : ∀ H' nx', St fr bp nx0 H0 l0 b0 ok ts n H' nx' -> WqR P pl X0 (k u H' nx') nx0 H0 R) : WqR P pl X0 (callQ (.call f args false none H nx) k p) nx0 H0 R :=
 Wq.callB h hS.2.1 fun H' nx' hA hn hkp => hk H' nx' (hS.keep' hA hn hkp)
theorem Wq.callTS {f : FuncId} {args : List Value} {u : Value} {k p : Value -> T OB -> Nat -> Q} (h : PT f args u) (hS : St fr bp nx0 H0 l0 b0 ok ts n H nx) (hk : ∀ H' nx', St fr bp nx0 H0 l0 b0 ok ts n H' nx' -> WqR P pl X0 (k u H' nx') nx0 H0 R) : WqR P pl X0 (callQ (.call f args false none H nx) k p) nx0 H0 R := by
 obtain ⟨H1, nx1, h1, h2⟩ := h H nx (hS.1.ag hS.2.1)
 obtain ⟨v, H2, nx2, h3, hR, h4⟩ := hk H1 nx1 (hS.keep h1)
 refine ⟨v, H2, nx2, h3, hR, ?_⟩
 show optK (F P pl X0 (.call f args false none H nx)) (fun r => (match r.o with | .ret v => k v r.H r.nx | .pan v => p v r.H r.nx : Q).run (F P pl X0)) none = _
 rw [h2]
 exact h4
theorem St.succ (h : St fr bp nx0 H0 l0 b0 ok ts n H nx) : St fr bp nx0 H0 l0 b0 ok ts n H (nx + 1) := h.keep (Ag.refl nx H).succ
theorem Wq.natS {k : Nat -> Q} (h : St fr bp nx0 H0 l0 b0 ok ts n H nx) (hk : St fr bp nx0 H0 l0 b0 ok ts n H (nx + 1) -> WqR P pl X0 (k (nx + 1)) nx0 H0 R) : WqR P pl X0 (Ev.natF (Nat.succ nx) k) nx0 H0 R := Wq.natF (hk h.succ)
theorem Wq.varS {e t : TypeId} {l : List Value} {s : Nat} {x : Value} {k : T OB -> Nat -> Q} (hz : zeroC P e = some l) (hs : szOf P t = some s) (hl : l.length = s) (hx : x.cells.toList.length = s) (hone : x.cells.toList.all oneCell = true)
 (h : St fr bp nx0 H0 l0 b0 ok ts n H nx) (hk : ∀ H' nx', St fr bp nx0 H0 l0 b0 ok ts n H' nx' -> WqR P pl X0 (k H' nx') nx0 H0 R) : WqR P pl X0 (effQ (efAlloc P H nx e) fun p H nx => frSt P H nx t (some p) x k) nx0 H0 R :=
 Wq.varB hz hs hl hx hone h.2.1 fun H' nx' hA hn hkp => hk H' nx' (h.keep' hA hn hkp)
theorem St.bad (h : St fr bp nx0 H0 l0 b0 ok ts n H nx) : rdLoad P H 4 (some (.pointer (some ⟨bp, 1, none⟩))) = some (.bool (b0 || !ok)) := by
 obtain ⟨_, _, l, b, ⟨_, _, sl, h1, _, _⟩, h3, _⟩ := h
 rw [rdLoad_cell h1 agg_4 rfl, h3]
theorem sm_31 {n : Nat} (h : n <= 1048576) : apSmall P 31 4 n = true := by
 have : apSmall P 31 4 n = (Nat.ble n 1048576 && true) := by kernel_rfl
 rw [this, Nat.ble_eq_true_of_le h]; rfl
theorem fl_31 (a b c d : Value) : Instr.fill (fun i => some (i * 4, 4)) (zeroRow [Value.int .i64 0, Value.string ⟨⟨[]⟩⟩, Value.int .i64 0, Value.int .i64 0] (1 * 4)) [(0, .agg ⟨[a, b, c, d]⟩)] = some ⟨[a, b, c, d]⟩ := by kernel_rfl
theorem Out.mark {l : List Tok} {b : Bool} (h : Out fr bp nx0 H nx l b) (hA : Ag nx0 H0 nx H) (c : Bool) {k : Value -> T OB -> Nat -> Q} (hk : ∀ H', Out fr bp nx0 H' nx l c -> Ag nx0 H0 nx H' -> WqR P pl X0 (k undef H' nx) nx0 H0 R) :
 WqR P pl X0 (effQ (efStore P H nx 4 (some (.pointer (some ⟨bp, 1, none⟩))) (some (.bool c))) k) nx0 H0 R := by
 obtain ⟨h1, h2, sl, h3, h4, h5, h6⟩ := h
 refine Wq.put h3 sz_4 rfl rfl (by simp) rfl hA h1 fun H' hb keep hA' => hk H' ⟨h1, h2, sl, hb, ?_, h5, fun x l e hx => by
  obtain ⟨p, q, r, t⟩ := h6 x l e hx
  exact ⟨p, keep _ _ _ r q, r, t⟩⟩ hA'
 rcases h4 with h | ⟨c, q1, q2, q3, q4⟩
 . exact .inl h
 . exact .inr ⟨c, q1, q2, keep _ _ _ (h5 _ _ _ _ q4) q3, q4⟩
theorem Wq.tok (t : Tok) {k p : Value -> T OB -> Nat -> Q} (hS : St fr bp nx0 H0 l0 b0 ok ts n H nx) (hl : l0.length + (n + 1) <= 100000) (hk : ∀ u H' nx', St fr bp nx0 H0 l0 b0 ok (ts ++ [t]) (n + 1) H' nx' -> WqR P pl X0 (k u H' nx') nx0 H0 R) :
 WqR P pl X0 (effQ (efBuildSlice P H nx 29 1 (some [(0, t.v)])) fun v H nx => callQ (.call 76 [ptr bp, v] false none H nx) k p) nx0 H0 R := by
 obtain ⟨h0, hA, l, b, hO, hG⟩ := hS
 obtain ⟨h1, h2, sl, h3, h4, h5, h6⟩ := hO
 have hn0 := hA.1
 have hlen := hG.2.2
 refine Wq.row und_29 sz_31 zero_31 rfl (fl_31 _ _ _ _) hA fun H1 hb1 keep1 hA1 => ?_
 refine Wq.callR (R1 := fun u H' nx' => Out fr bp nx0 H' nx' (l ++ [t]) b) rfl ?_ fun u H2 nx2 hA2 hu => hk u H2 nx2 ⟨h0, hA2, l ++ [t], b, hu, hG.1, fun q => by rw [hG.2.1 q, List.append_assoc], by rw [List.length_append, List.length_singleton]; omega⟩
 rw [q76]
 have hch : chunk true 4 1 [i64 t.k, txt t.s, i64 t.n, i64 t.at_] = some [t.v] := chunk_aggs 4 [[i64 t.k, txt t.s, i64 t.n, i64 t.at_]] (by simp)
 refine Wq.frz und_29 sz_31 agg_31 rfl hb1 rfl (by rw [Nat.ble_eq_true_of_le (Nat.le_refl _), Bool.or_true]) hch rfl hA1 hA.1 fun H2 keep2 hA2 => ?_
 have h3' := keep2 _ _ _ (show bp ≠ nx by omega) (keep1 _ _ _ h2 h3)
 simp only [stpF, fp_116_0]
 rw [rdLoad_cell h3' agg_29 (off := 0) (u := sl) rfl]
 simp only [stpF]
 have hxs : xsOf H2 4 (rowV 4 [t.v]) = some (1, t.c) := xsOf_row 4 [t.v]
 rcases h4 with ⟨rfl, rfl⟩ | ⟨c, q1, q2, q3, rfl⟩
 . refine Wq.app0 und_29 sz_31 rfl hxs (sm_31 (by decide)) hA2 (fun q => by cases q) fun H3 _ hb3 keep3 hA3 => ?_
   have h3'' := keep3 _ _ _ (by omega) h3'
   refine Wq.put h3'' sz_29 rfl rfl (by simp) rfl hA3 h1 fun H4 hb4 keep4 hA4 => ?_
   exact Wq.retR hA4 ⟨h1, by omega, _, hb4, .inr ⟨nx + 1 + 1, by omega, by omega, keep4 _ _ _ (by omega) (by simpa using hb3), rfl⟩, fun c o n u q => by cases q; omega, fun x l e hx => by
    obtain ⟨p, q, r, t⟩ := h6 x l e hx
    exact ⟨by omega, keep4 _ _ _ r (keep3 _ _ _ (by omega) (keep2 _ _ _ (by omega) (keep1 _ _ _ p q))), r, fun c o n u q => by cases q; omega⟩⟩
 . have hcb := h5 _ _ _ _ rfl
   have q3' := keep2 _ _ _ (show c ≠ nx by omega) (keep1 _ _ _ q2 q3)
   refine Wq.app und_29 sz_31 q3' sz_31 (tokC_len l) rfl hxs rfl (sm_31 (by omega)) hA2 q1 (by omega) fun H3 hb3 keep3 hA3 => ?_
   have h3'' := keep3 _ _ _ (fun q => hcb q.symm) (by omega) h3'
   refine Wq.put h3'' sz_29 rfl rfl (by simp) rfl hA3 h1 fun H4 hb4 keep4 hA4 => ?_
   refine Wq.retR hA4 ⟨h1, by omega, _, hb4, .inr ⟨nx + 1 + 1, by omega, by omega, keep4 _ _ _ (by omega) ?_, by rw [List.length_append]; rfl⟩, fun c o n u q => by cases q; omega, fun x l e hx => by
    obtain ⟨p, q, r, t⟩ := h6 x l e hx
    exact ⟨by omega, keep4 _ _ _ r (keep3 _ _ _ (fun q => t _ _ _ _ rfl q.symm) (by omega) (keep2 _ _ _ (by omega) (keep1 _ _ _ p q))), r, fun c o n u q => by cases q; omega⟩⟩
   have e : tokC (l ++ [t]) = tokC l ++ t.c := by simp [tokC]
   rw [e]
   exact hb3
end
end Go.Proofs.YthjhonhhbddhkaaGreatDoor
/- The printer: signs, words, what must be. -/
namespace Go.Proofs.YthjhonhhbddhkaaGreatDoor
open Go.Ev Go.RowKit
noncomputable section
set_option maxRecDepth 100000
set_option linter.unusedVariables false
set_option linter.unusedSimpArgs false
variable {nx0 : Nat} {H0 : T OB}
variable {fr : Nat -> List Value -> TypeId -> Prop} {bp : Nat} {l0 : List Tok} {b0 : Bool} {ok : Bool} {ts : List Tok} {n nx : Nat} {H : T OB} {R : Value -> T OB -> Nat -> Prop}
abbrev sgT (s : List UInt8) : Tok := ⟨7, s, 0, 0⟩
abbrev kyT (s : List UInt8) : Tok := ⟨6, s, 0, 0⟩
theorem pu_tok (f : FuncId) (k : Int) (s : List UInt8) (hf : X0 f [txt s] = none) (hq : ∀ H nx, evT P pl (.call f [txt s] false none H nx) = effQ (efAlloc P H nx 31) (fun x0 H nx => optK (rdBuild P 31 (some [(0, i64 k), (1, txt s)])) (fun x1 => effQ (efStore P H nx 31 (some x0) (some x1)) (fun x2 H nx => optK (rdLoad P H 31 (some x0)) (fun x3 => .ret ⟨.ret x3, false, H, nx⟩) .bad)) .bad)) :
 P0 f [txt s] (Tok.v ⟨k, s, 0, 0⟩) := Pure.of hf fun H nx => by
 rw [hq]
 refine Wq.alloc zero_31 (.refl _ _) fun H1 hb _ hA1 => ?_
 simp only [stpF, bd_31_t]
 refine Wq.store hb sz_31 (by simp) rfl rfl hA1 (by omega) fun H2 hb _ hA2 => ?_
 have hb' : IsB H2 nx (Tok.c ⟨k, s, 0, 0⟩) 31 := hb
 rw [rdLoad_agg hb' agg_31 sz_31 (by simp)]
 exact Wq.ret hA2
theorem pu_77 (s : List UInt8) : P0 77 [txt s] (Tok.v (sgT s)) := pu_tok 77 7 s rfl fun H nx => q77 ..
theorem pu_129 (s : List UInt8) : P0 129 [txt s] (Tok.v (kyT s)) := pu_tok 129 6 s rfl fun H nx => q129 ..
theorem Wq.sgn (s : List UInt8) {k p p' : Value -> T OB -> Nat -> Q} (hS : St fr bp nx0 H0 l0 b0 ok ts n H nx) (hl : l0.length + (n + 1) <= 100000) (hk : ∀ u H' nx', St fr bp nx0 H0 l0 b0 ok (ts ++ [sgT s]) (n + 1) H' nx' -> WqR P pl X0 (k u H' nx') nx0 H0 R) :
 WqR P pl X0 (callQ (.call 77 [txt s] false none H nx) (fun x H nx => effQ (efBuildSlice P H nx 29 1 (some [(0, x)])) fun v H nx => callQ (.call 76 [ptr bp, v] false none H nx) k p) p') nx0 H0 R :=
 Wq.callS (pu_77 s) hS fun H1 nx1 hS1 => Wq.tok (sgT s) hS1 hl hk
theorem Wq.key (s : List UInt8) {k p p' : Value -> T OB -> Nat -> Q} (hS : St fr bp nx0 H0 l0 b0 ok ts n H nx) (hl : l0.length + (n + 1) <= 100000) (hk : ∀ u H' nx', St fr bp nx0 H0 l0 b0 ok (ts ++ [kyT s]) (n + 1) H' nx' -> WqR P pl X0 (k u H' nx') nx0 H0 R) :
 WqR P pl X0 (callQ (.call 129 [txt s] false none H nx) (fun x H nx => effQ (efBuildSlice P H nx 29 1 (some [(0, x)])) fun v H nx => callQ (.call 76 [ptr bp, v] false none H nx) k p) p') nx0 H0 R :=
 Wq.callS (pu_129 s) hS fun H1 nx1 hS1 => Wq.tok (kyT s) hS1 hl hk
theorem put_127 (c : Bool) : Put 127 [.bool c] c [] 0 := fun fr bp nx0 H0 l0 b0 H nx hl hS => by
 obtain ⟨h0, hA, l, b, hO, hG⟩ := hS
 rw [q127]
 have hb := St.bad (⟨h0, hA, l, b, hO, hG⟩ : St fr bp nx0 H0 l0 b0 true [] 0 H nx)
 simp only [stpF, fp_116_1, hb, Bool.or_false]
 have e0 : b = b0 := by rw [hG.1]; simp
 cases b0 with
 | true =>
   simp only [stpF]
   refine hO.mark hA true fun H1 hO1 hA1 => ?_
   exact Wq.retR hA1 ⟨rfl, h0, hA1, l, true, hO1, by simp, nofun, hG.2.2⟩
 | false =>
   simp only [stpF]
   refine hO.mark hA (!c) fun H1 hO1 hA1 => ?_
   exact Wq.retR hA1 ⟨rfl, h0, hA1, l, !c, hO1, by simp, fun q => hG.2.1 e0, hG.2.2⟩
theorem Wq.bad {k : Value -> T OB -> Nat -> Q} (hS : St fr bp nx0 H0 l0 b0 ok ts n H nx) (hk : ∀ H', St fr bp nx0 H0 l0 b0 false ts n H' nx -> WqR P pl X0 (k undef H' nx) nx0 H0 R) : WqR P pl X0 (effQ (efStore P H nx 4 (some (.pointer (some ⟨bp, 1, none⟩))) (some (.bool true))) k) nx0 H0 R := by
 obtain ⟨h0, hA, l, b, hO, hG⟩ := hS
 refine hO.mark hA true fun H1 hO1 hA1 => hk H1 ⟨h0, hA1, l, true, hO1, by simp, nofun, hG.2.2⟩
theorem St.skip' {ok ok' : Bool} {ts ts' : List Tok} {n n' nx : Nat} {H : T OB} (h : St fr bp nx0 H0 l0 b0 ok ts n H nx) (hb : (b0 || !ok) = true) (e : b0 = false -> ok = false -> ok' = false) (en : n <= n') : St fr bp nx0 H0 l0 b0 ok' ts' n' H nx := by
 obtain ⟨h0, h1, l, b, h2, h3, h4, h5⟩ := h
 refine ⟨h0, h1, l, b, h2, ?_, fun q => ?_, by omega⟩
 . rw [h3, hb]
   cases b0 with
   | true => rfl
   | false => rw [e rfl (by simpa using hb)]; rfl
 . rw [h3, hb] at q; cases q
theorem Wq.skip {ok' : Bool} {ts' : List Tok} {n' : Nat} (h : St fr bp nx0 H0 l0 b0 ok ts n H nx) (hb : (b0 || !ok) = true) (e : b0 = false -> ok = false -> ok' = false) (en : n <= n') : WqR P pl X0 (.ret ⟨.ret (.tuple ⟨[]⟩), false, H, nx⟩) nx0 H0 (Done fr bp nx0 H0 l0 b0 ok' ts' n') := Wq.retR h.2.1 ⟨rfl, h.skip' hb e en⟩
theorem put_132 (t : Tok) (hl : t.s.length < 9223372036854775807) : Put 132 [t.v] (tokOk t) [t] 1 := fun fr bp nx0 H0 l0 b0 H nx hn hS => by
 rw [q132]
 refine Wq.natS hS fun hS => ?_
 simp only [stpF]
 refine Wq.callTS (pt_33 t hl) hS fun H1 nx1 hS1 => ?_
 simp only [stpF]
 refine Wq.putS (put_127 _) rfl hS1 (by omega) fun u H2 nx2 hS2 => ?_
 refine Wq.tok t hS2 (by omega) fun u H3 nx3 hS3 => ?_
 exact Wq.done hS3 (by simp) (fun _ => by simp) (by omega)
def isAt (k : Int) : Bool := decide (k = 1) || (decide (k = 2) || (decide (k = 3) || (decide (k = 4) || (decide (k = 5) || (decide (k = 13) || decide (k = 10))))))
theorem pu_183 (e : Exp) : P0 183 [e.v] (.bool (isAt e.k)) := Pure.of rfl fun H nx => by
 rw [q183]
 refine Wq.natF' (.refl _ _) fun hA => ?_
 have L : ∀ b, b = isAt e.k -> Wq P pl X0 (.jump (l183_20 b H (nx + 1))) nx H (.bool (isAt e.k)) := by
  intro b hb
  refine Wq.jmp (q183_20 ..) (fun _ => rfl) ?_
  rw [<- hb]
  cases b <;> exact Wq.ret hA
 simp only [stpF, sttF, List.length_map]
 unfold isAt at L ⊢
 refine Wq.ite (fun g => L _ (by simp [g])) (fun g1 => ?_)
 refine Wq.ite (fun g => L _ (by simp [g])) (fun g2 => ?_)
 refine Wq.ite (fun g => L _ (by simp [g])) (fun g3 => ?_)
 refine Wq.ite (fun g => L _ (by simp [g])) (fun g4 => ?_)
 refine Wq.ite (fun g => L _ (by simp [g])) (fun g5 => ?_)
 refine Wq.ite (fun g => L _ (by simp [g])) (fun g6 => ?_)
 exact L _ (by simp [g1, g2, g3, g4, g5, g6])
def opT (s : List UInt8) : Tok := if (match s with | [] => false | c :: _ => isLow c) = true then kyT s else sgT s
theorem pu_169 (a : UInt8) (r : List UInt8) : P0 169 [txt (a :: r)] (opT (a :: r)).v := Pure.of rfl fun H nx => by
 rw [q169]
 refine Wq.alloc zero_31 (.refl _ _) fun H1 hb _ hA1 => ?_
 have e1 : decide (97 <= (a.toNat : Int)) = decide (97 <= a.toNat) := by rw [decide_eq_decide]; omega
 have e2 : decide ((a.toNat : Int) <= 122) = decide (a.toNat <= 122) := by rw [decide_eq_decide]; omega
 have L : ∀ b, b = isLow a -> Wq P pl X0 (.jump (l169_6 (txt (a :: r)) (.pointer (some ⟨nx, 0, none⟩)) b H1 (nx + 1))) nx H (opT (a :: r)).v := by
  intro b hb0
  refine Wq.jmp (q169_6 ..) (fun _ => rfl) ?_
  unfold opT
  show Wq P pl X0 _ nx H (if isLow a = true then kyT (a :: r) else sgT (a :: r)).v
  rw [<- hb0]
  cases b with
  | true =>
    refine Wq.bK (fun _ => ?_) (fun h => by cases h)
    refine Wq.callB (pu_129 _) hA1 fun H2 nx2 hA2 n2 k2 => ?_
    refine Wq.store (k2 _ _ _ (by omega) hb) sz_31 (by simp) rfl rfl hA2 (by omega) fun H3 hb3 _ hA3 => ?_
    have hb' : IsB H3 nx (Tok.c (kyT (a :: r))) 31 := hb3
    rw [rdLoad_agg hb' agg_31 sz_31 (by simp)]
    exact Wq.ret hA3
  | false =>
    refine Wq.bK (fun h => by cases h) (fun _ => ?_)
    refine Wq.callB (pu_77 _) hA1 fun H2 nx2 hA2 n2 k2 => ?_
    refine Wq.store (k2 _ _ _ (by omega) hb) sz_31 (by simp) rfl rfl hA2 (by omega) fun H3 hb3 _ hA3 => ?_
    have hb' : IsB H3 nx (Tok.c (sgT (a :: r))) 31 := hb3
    rw [rdLoad_agg hb' agg_31 sz_31 (by simp)]
    exact Wq.ret hA3
 unfold isLow at L
 simp only [stpF, ix0, e1, e2]
 refine Wq.bK (fun h => L _ (by rw [h, Bool.true_and])) (fun h => L _ (by rw [h, Bool.false_and]))
theorem w_153v (l : List (List UInt8)) (hl : l.length < big) (s : List UInt8) : ∀ (r : List (List UInt8)) (i : Nat) (H : T OB) (nx : Nat), l.drop i = r -> i <= l.length -> Ag nx0 H0 nx H -> Wq P pl X0 (.jump (l153_7 (txt s) (strsR l) (i64 (l.length : Int)) (i64 (i : Int)) H nx)) nx0 H0 (.bool (r.contains s)) := by
 intro r
 induction r with
 | nil =>
   intro i H nx hd hi hA
   have hil := drop_nil hd hi
   refine Wq.jmp (q153_7 ..) (fun _ => rfl) ?_
   simp only [stpF, sttF, List.length_map, hil, not_lt_len]
   exact Wq.ret hA
 | cons x r ih =>
   intro i H nx hd hi hA
   obtain ⟨hg, hlt, hd'⟩ := drop_cons hd
   have hg' : (l.map txt)[i]? = some (txt x) := by simp [hg]
   refine Wq.jmp (q153_7 ..) (fun _ => rfl) ?_
   simp only [stpF, sttF, List.length_map, is_lt_len hlt, ix_49 hg', txt_dec, wrap_succ (show i < 9223372036854775807 by have := sm_lt hl; omega)]
   refine Wq.ite (fun h => ?_) (fun h => ?_)
   . exact Wq.retE (by subst h; simp) hA
   . have : ((x :: r).contains s) = r.contains s := by rw [List.contains_cons, show (s == x) = false from by simp; exact fun q => h q.symm, Bool.false_or]
     rw [this]
     exact ih (i + 1) H nx hd' (by omega) hA
theorem pu_153 (l : List (List UInt8)) (hl : l.length < big) (s : List UInt8) : P0 153 [strsR l, txt s] (.bool (l.contains s)) := Pure.of rfl fun H nx => by
 rw [q153]
 simp only [stpF, sttF, List.length_map]
 exact w_153v l hl s l 0 H nx rfl (Nat.zero_le _) (.refl _ _)
theorem w_153_7 (b : Nat) (l : List (List UInt8)) (s : List UInt8) (hb : IsRo H0 b (l.map txt)) (hbx : b < nx0) (hl : l.length < 1000000) (cp : Nat) : ∀ (r : List (List UInt8)) (i : Nat) (H : T OB) (nx : Nat), l.drop i = r -> i <= l.length -> Ag nx0 H0 nx H ->
 Wq P pl X0 (.jump (l153_7 (txt s) (.slice (some ⟨b, 0, none⟩) l.length cp) (i64 (l.length : Int)) (i64 (i : Int)) H nx)) nx0 H0 (.bool (r.contains s)) := by
 intro r
 induction r with
 | nil =>
   intro i H nx hd hi hA
   have hil := drop_nil hd hi
   refine Wq.jmp (q153_7 ..) (fun _ => rfl) ?_
   simp only [stpF, hil, not_lt_len]
   exact Wq.ret hA
 | cons x r ih =>
   intro i H nx hd hi hA
   obtain ⟨hg, hlt, hd'⟩ := drop_cons hd
   have hg' : (l.map txt)[0 + i * 1]? = some (txt x) := by simp [hg]
   refine Wq.jmp (q153_7 ..) (fun _ => rfl) ?_
   simp only [stpF, is_lt_len hlt, ixs_49 hlt, rdLoad_ro (hb.ag hA hbx) agg_9 hg', wrap_succ (show i < 9223372036854775807 by omega), txt_dec]
   refine Wq.ite (fun h => ?_) (fun h => ?_)
   . exact Wq.retE (by subst h; simp) hA
   . have : ((x :: r).contains s) = r.contains s := by rw [List.contains_cons, show (s == x) = false from by simp; exact fun q => h q.symm, Bool.false_or]
     rw [this]
     exact ih (i + 1) H nx hd' (by omega) hA
theorem sl_188 (H : T OB) : rdSlice P H 188 (some (.pointer (some ⟨3, 0, none⟩))) (some none) (some none) (some none) = some (.slice (some ⟨3, 0, none⟩) 8 8) := rdSlice_all (len := 8) (e := 9) (by kernel_rfl) sz_9 (by omega) (by omega)
theorem pt_153w (s : List UInt8) : PT 153 [.slice (some ⟨3, 0, none⟩) 8 8, txt s] (.bool (wordsL.contains s)) := PT.of rfl fun H nx hT => by
 rw [q153]
 simp only [stpF]
 exact w_153_7 3 wordsL s hT.words (by have := hT.1; omega) (by decide) 8 wordsL 0 H nx rfl (Nat.zero_le _) (.refl _ _)
theorem rdLoad_roA {b s : Nat} {l : List Value} {t : TypeId} {H : T OB} (h : IsRo H b l) (ha : aggQ P t = some true) (hs : szOf P t = some s) (hl : l.length = s) : rdLoad P H t (some (.pointer (some ⟨b, 0, none⟩))) = some (.agg ⟨l⟩) := by
 obtain ⟨tr, h1, h2⟩ := h
 show loadO P H t b 0 = _
 unfold loadO
 rw [h1]
 show loadB P l.length tr t 0 = _
 unfold loadB
 rw [ha, optK_some]
 show loadA P l.length tr t 0 = _
 unfold loadA
 rw [hs, optK_some, toL_of h2 s 0 (by omega), Nat.ble_eq_true_of_le (show 0 + s <= l.length by omega)]
 simp [<- hl]
theorem ix_182_0 : rdIndex P 182 (some (.agg ⟨levelsL.map lvl⟩)) (some (i64 0)) = some (lvl [[111, 114, 101, 108, 115, 101]]) := by kernel_rfl
theorem ix_182_1 : rdIndex P 182 (some (.agg ⟨levelsL.map lvl⟩)) (some (i64 1)) = some (lvl [[97, 110, 100, 97, 108, 115, 111]]) := by kernel_rfl
theorem ix_182_2 : rdIndex P 182 (some (.agg ⟨levelsL.map lvl⟩)) (some (i64 2)) = some (lvl [[58, 61]]) := by kernel_rfl
theorem ix_182_3 : rdIndex P 182 (some (.agg ⟨levelsL.map lvl⟩)) (some (i64 3)) = some (lvl [[61], [60, 62], [60], [60, 61], [62], [62, 61]]) := by kernel_rfl
theorem ix_182_4 : rdIndex P 182 (some (.agg ⟨levelsL.map lvl⟩)) (some (i64 4)) = some (lvl [[58, 58]]) := by kernel_rfl
theorem ix_182_5 : rdIndex P 182 (some (.agg ⟨levelsL.map lvl⟩)) (some (i64 5)) = some (lvl [[43], [45], [94]]) := by kernel_rfl
theorem ix_182_6 : rdIndex P 182 (some (.agg ⟨levelsL.map lvl⟩)) (some (i64 6)) = some (lvl [[42], [100, 105, 118], [109, 111, 100]]) := by kernel_rfl
theorem ix_182 (i : Nat) (x : List (List UInt8)) (h : levelsL[i]? = some x) : rdIndex P 182 (some (.agg ⟨levelsL.map lvl⟩)) (some (i64 (i : Int))) = some (lvl x) := by
 match i, h with
 | 0, h => exact (Option.some.inj (show some ([[111, 114, 101, 108, 115, 101]] : List (List UInt8)) = some x from h)) ▸ ix_182_0
 | 1, h => exact (Option.some.inj (show some ([[97, 110, 100, 97, 108, 115, 111]] : List (List UInt8)) = some x from h)) ▸ ix_182_1
 | 2, h => exact (Option.some.inj (show some ([[58, 61]] : List (List UInt8)) = some x from h)) ▸ ix_182_2
 | 3, h => exact (Option.some.inj (show some ([[61], [60, 62], [60], [60, 61], [62], [62, 61]] : List (List UInt8)) = some x from h)) ▸ ix_182_3
 | 4, h => exact (Option.some.inj (show some ([[58, 58]] : List (List UInt8)) = some x from h)) ▸ ix_182_4
 | 5, h => exact (Option.some.inj (show some ([[43], [45], [94]] : List (List UInt8)) = some x from h)) ▸ ix_182_5
 | 6, h => exact (Option.some.inj (show some ([[42], [100, 105, 118], [109, 111, 100]] : List (List UInt8)) = some x from h)) ▸ ix_182_6
 | i + 7, h => exact absurd h (by simp [levelsL])
theorem pt_167 (s : List UInt8) : PT 167 [txt s] (.bool (binsL.contains s)) := PT.of rfl fun H nx hT => by
 rw [q167, rdLoad_roA hT.levels agg_182 sz_182 rfl]
 simp only [stpF]
 have e : binsL.contains s = levelsL.any fun l => l.contains s := by
  have : binsL = levelsL.flatten := by decide
  rw [this, Bool.eq_iff_iff]
  simp
 rw [e]
 refine Wq.each levelsL (fun i (_ : Unit) H nx => .jump (l167_7 (txt s) (.agg ⟨levelsL.map lvl⟩) (i64 (i : Int)) H nx)) (fun t (_ : Unit) => .bool (t.any fun l => l.contains s)) (fun _ H1 nx1 hA1 => ?_) (fun i a t _ H1 nx1 hg hlt hd hA1 ih => ?_) () _ _ (.refl _ _)
 . refine Wq.jmp (q167_7 ..) (fun _ => rfl) ?_
   simp only [stpF, show decide ((levelsL.length : Int) < 7) = false from by decide]
   exact Wq.ret hA1
 . refine Wq.jmp (q167_7 ..) (fun _ => rfl) ?_
   have hlt' : i < 7 := hlt
   simp only [stpF, show decide ((i : Int) < 7) = true from by simp; omega, ix_182 i a hg]
   have hal : a.length < big := by
    have : ∀ x ∈ levelsL, x.length < 10 := by decide
    exact Nat.lt_trans (this a (List.mem_of_getElem? hg)) (by decide)
   refine Wq.call (pu_153 a hal s) hA1 fun H2 nx2 hA2 => ?_
   rw [List.any_cons]
   cases a.contains s with
   | true => exact Wq.ret hA2
   | false =>
     simp only [stpF, wrap_succ (show i < 9223372036854775807 by omega), Bool.false_or]
     exact ih () _ _ hA2
def hasOk (e : Exp) (m : Int) (a b c d : Bool) : Bool := (decide (m < 0) || decide ((e.l.length : Int) = m)) && ((a || decide (e.s = [])) && ((b || decide (e.n = 0)) && ((c || decide (e.p.length = 0)) && (d || decide (e.d.length = 0)))))
theorem put_164 (e : Exp) (m : Int) (a b c d : Bool) : Put 164 [e.v, i64 m, .bool a, .bool b, .bool c, .bool d] (hasOk e m a b c d) [] 0 := fun fr bp nx0 H0 l0 b0 H nx hn hS => by
 rw [q164]
 refine Wq.natS hS fun hS => ?_
 have L : ∀ r, r = hasOk e m a b c d -> WqR P pl X0 (callQ (.call 127 [ptr bp, .bool r] false none H (nx + 1)) (fun x H nx => .ret ⟨.ret (.tuple ⟨[]⟩), false, H, nx⟩) panK) nx0 H0 (Done fr bp nx0 H0 l0 b0 (hasOk e m a b c d) [] 0) := by
  intro r hr
  subst hr
  refine Wq.putS (put_127 _) rfl hS (by omega) fun u H2 nx2 hS2 => ?_
  exact Wq.done hS2 (by simp) (fun _ => rfl) (by omega)
 simp only [stpF, sttF, List.length_map, txt_dec, nat_eq0]
 unfold hasOk at L ⊢
 generalize decide (m < 0) = x1 at *
 generalize decide ((e.l.length : Int) = m) = x2 at *
 generalize decide (e.s = []) = x3 at *
 generalize decide (e.n = 0) = x4 at *
 generalize decide (e.p.length = 0) = x5 at *
 generalize decide (e.d.length = 0) = x6 at *
 cases x1 <;> cases a <;> cases b <;> cases c <;> cases d <;> cases x2 <;> cases x3 <;> cases x4 <;> cases x5 <;> first | exact L _ rfl | (cases x6 <;> exact L _ rfl)
end
end Go.Proofs.YthjhonhhbddhkaaGreatDoor
/- The printer: patterns. -/
namespace Go.Proofs.YthjhonhhbddhkaaGreatDoor
open Go.Ev Go.RowKit
noncomputable section
set_option maxRecDepth 100000
set_option linter.unusedVariables false
set_option linter.unusedSimpArgs false
variable {nx0 : Nat} {H0 : T OB}
variable {fr : Nat -> List Value -> TypeId -> Prop} {bp : Nat} {l0 : List Tok} {b0 : Bool} {ok : Bool} {ts : List Tok} {n nx : Nat} {H : T OB} {R : Value -> T OB -> Nat -> Prop}
def frB (fr : Nat -> List Value -> TypeId -> Prop) (b : Nat) (c : List Value) (e : TypeId) : Nat -> List Value -> TypeId -> Prop := fun x l t => (x = b /\ l = c /\ t = e) \/ fr x l t
theorem Wq.boxS {e : TypeId} {u : Value} {k : Value -> T OB -> Nat -> Q} (hS : St fr bp nx0 H0 l0 b0 ok ts n H nx) (hk : ∀ H', (∀ x l t, fr x l t -> x ≠ nx) -> St (frB fr nx u.cells.toList e) bp nx0 H0 l0 b0 ok ts n H' (nx + 1) -> WqR P pl X0 (k (.pointer (some ⟨nx, 0, none⟩)) H' (nx + 1)) nx0 H0 R) : WqR P pl X0 (effQ (efBox H nx e (some u)) k) nx0 H0 R := by
 obtain ⟨h0, hA, l, b, hO, hG⟩ := hS
 have hO' := hO
 obtain ⟨h1, h2, sl, h3, h4, h5, h6⟩ := hO
 refine Wq.box hA fun H' hb keep hA' => hk H' (fun x l t hx => by have := (h6 x l t hx).1; omega) ⟨h0, hA', l, b, ?_, hG⟩
 have := hO'.keep (nx' := nx + 1) (by omega) keep
 obtain ⟨g1, g2, sl', g3, g4, g5, g6⟩ := this
 have hrow : ∀ c o n u, sl = .slice (some ⟨c, o, none⟩) n u -> c < nx := by
  intro c o n u q
  rcases h4 with ⟨_, e⟩ | ⟨c', _, q2, _, q4⟩
  . rw [q] at e; cases e
  . rw [q] at q4; cases q4; exact q2
 refine ⟨h1, by omega, sl, keep _ _ _ h2 h3, ?_, h5, fun x l t hx => ?_⟩
 . rcases h4 with h | ⟨c, q1, q2, q3, q4⟩
   . exact .inl h
   . exact .inr ⟨c, q1, by omega, keep _ _ _ q2 q3, q4⟩
 . rcases hx with ⟨rfl, rfl, rfl⟩ | hx
   . exact ⟨by omega, hb, by omega, fun c o n u q => by have := hrow c o n u q; omega⟩
   . obtain ⟨p, q, r⟩ := h6 x l t hx
     exact ⟨by omega, keep _ _ _ p q, r⟩
theorem St.get {b : Nat} {c : List Value} {e : TypeId} (h : St (frB fr b c e) bp nx0 H0 l0 b0 ok ts n H nx) : IsB H b c e := by
 obtain ⟨_, _, l, b', ⟨_, _, sl, _, _, _, h6⟩, _⟩ := h
 exact (h6 b c e (.inl ⟨rfl, rfl, rfl⟩)).2.1
theorem St.drop {b : Nat} {c : List Value} {e : TypeId} (h : St (frB fr b c e) bp nx0 H0 l0 b0 ok ts n H nx) : St fr bp nx0 H0 l0 b0 ok ts n H nx := by
 obtain ⟨h0, hA, l, b', ⟨h1, h2, sl, h3, h4, h5, h6⟩, hG⟩ := h
 exact ⟨h0, hA, l, b', ⟨h1, h2, sl, h3, h4, h5, fun x l t hx => h6 x l t (.inr hx)⟩, hG⟩
theorem Wq.putB {b off : Nat} {c c' : List Value} {e t : TypeId} {u : Value} {k : Value -> T OB -> Nat -> Q} (hS : St (frB fr b c e) bp nx0 H0 l0 b0 ok ts n H nx) (hbn : nx0 <= b) (hne : ∀ x l t, fr x l t -> x ≠ b) (hs : szOf P t = some 1) (hc : u.cells.toList = [u]) (ho : oneCell u = true) (hn : off < c.length) (hl : c.set off u = c')
 (hk : ∀ H', St (frB fr b c' e) bp nx0 H0 l0 b0 ok ts n H' nx -> WqR P pl X0 (k undef H' nx) nx0 H0 R) : WqR P pl X0 (effQ (efStore P H nx t (some (.pointer (some ⟨b, off, none⟩))) (some u)) k) nx0 H0 R := by
 obtain ⟨h0, hA, l, b', ⟨h1, h2, sl, h3, h4, h5, h6⟩, hG⟩ := hS
 obtain ⟨hb1, hb2, hb3, hb4⟩ := h6 b c e (.inl ⟨rfl, rfl, rfl⟩)
 refine Wq.put hb2 hs hc ho hn hl hA hbn fun H' hb keep hA' => hk H' ⟨h0, hA', l, b', ⟨h1, h2, sl, keep _ _ _ (fun q => hb3 q.symm) h3, ?_, h5, fun x l t hx => ?_⟩, hG⟩
 . rcases h4 with h | ⟨c, q1, q2, q3, q4⟩
   . exact .inl h
   . exact .inr ⟨c, q1, q2, keep _ _ _ (hb4 _ _ _ _ q4) q3, q4⟩
 . rcases hx with ⟨rfl, rfl, rfl⟩ | hx
   . exact ⟨hb1, hb, hb3, hb4⟩
   . obtain ⟨p, q, r⟩ := h6 x l t (.inr hx)
     exact ⟨p, keep _ _ _ (hne x l t hx) q, r⟩
def tokL {α : Type} (tf : Bool -> α -> List Tok) : Bool -> List α -> List Tok
 | _, [] => []
 | b, a :: l => tf b a ++ tokL tf false l
def sumN {α : Type} (nf : α -> Nat) : List α -> Nat
 | [] => 0
 | a :: l => nf a + sumN nf l
theorem Wq.eachS {α : Type} (l : List α) (okf : α -> Bool) (tf : Bool -> α -> List Tok) (nf : α -> Nat) (q : Nat -> T OB -> Nat -> Q) (hS : St fr bp nx0 H0 l0 b0 ok ts n H nx) (hl : l0.length + (n + sumN nf l) <= 100000)
 (hend : ∀ H nx, St fr bp nx0 H0 l0 b0 (ok && l.all okf) (ts ++ tokL tf true l) (n + sumN nf l) H nx -> WqR P pl X0 (q l.length H nx) nx0 H0 R)
 (hstep : ∀ i a H nx ok' ts' n', l[i]? = some a -> i < l.length -> l0.length + (n' + nf a) <= 100000 -> St fr bp nx0 H0 l0 b0 ok' ts' n' H nx -> (∀ H nx, St fr bp nx0 H0 l0 b0 (ok' && okf a) (ts' ++ tf (decide (i = 0)) a) (n' + nf a) H nx -> WqR P pl X0 (q (i + 1) H nx) nx0 H0 R) -> WqR P pl X0 (q i H nx) nx0 H0 R) :
 WqR P pl X0 (q 0 H nx) nx0 H0 R := by
 have key : ∀ (t : List α) (i : Nat) (ok' : Bool) (ts' : List Tok) (n' : Nat) (H : T OB) (nx : Nat), l.drop i = t -> i <= l.length -> (ok' && t.all okf) = (ok && l.all okf) -> ts' ++ tokL tf (decide (i = 0)) t = ts ++ tokL tf true l -> n' + sumN nf t = n + sumN nf l -> St fr bp nx0 H0 l0 b0 ok' ts' n' H nx -> WqR P pl X0 (q i H nx) nx0 H0 R := by
  intro t
  induction t with
  | nil =>
    intro i ok' ts' n' H nx hd hi h1 h2 h3 hS
    have hil := drop_nil hd hi
    subst hil
    refine hend H nx ?_
    rw [<- h1, <- h2, <- h3]
    simpa [tokL, sumN] using hS
  | cons a t ih =>
    intro i ok' ts' n' H nx hd hi h1 h2 h3 hS
    obtain ⟨hg, hlt, hd'⟩ := drop_cons hd
    rw [sumN] at h3
    refine hstep i a H nx ok' ts' n' hg hlt (by omega) hS fun H2 nx2 hS2 => ih (i + 1) _ _ _ H2 nx2 hd' (by omega) ?_ ?_ ?_ hS2
    . rw [<- h1, List.all_cons, Bool.and_assoc]
    . rw [<- h2, tokL, List.append_assoc]; rfl
    . omega
 exact key l 0 ok ts n H nx rfl (Nat.zero_le _) rfl rfl rfl hS
def sepF {α : Type} (s : List UInt8) (f : α -> List Tok) : Bool -> α -> List Tok := fun b a => (if b = true then [] else [sgT s]) ++ f a
abbrev PI := (Int × Nat) × (List Tok × List (List Tok))
def partP (x : PI) : List Tok := if x.1.1 = 6 /\ x.1.2 ≠ 0 then sgT [40] :: (x.2.1 ++ [sgT [41]]) else x.2.1
def patTH (k n : Int) (s : List UInt8) (q : List PI) : List Tok :=
 if k = 1 then [sgT [95]]
 else if k = 2 then [⟨3, s, 0, 0⟩]
 else if k = 3 then if n < 0 then [sgT [126], ⟨1, [], -n, 0⟩] else [⟨1, [], n, 0⟩]
 else if k = 4 then [⟨2, s, 0, 0⟩]
 else if k = 5 then sgT [40] :: (tokL (sepF [44] partP) true q ++ [sgT [41]])
 else if k = 6 then if s = [58, 58] then (match q with | [x] => (match x.2.2 with | [a, b] => a ++ sgT [58, 58] :: b | _ => []) | _ => []) else ⟨4, s, 0, 0⟩ :: tokL (fun _ => partP) true q
 else []
mutual
def patI : Pat -> List Tok × List (List Tok)
 | .mk k n s l => (patTH k n s (patsI l), (patsI l).map partP)
def patsI : List Pat -> List PI
 | [] => []
 | p :: l => ((p.k, p.l.length), patI p) :: patsI l
end
def patT (p : Pat) : List Tok := (patI p).1
def patPT (p : Pat) : List Tok := partP ((p.k, p.l.length), patI p)
theorem patsI_eq (l : List Pat) : patsI l = l.map fun p => ((p.k, p.l.length), patI p) := by
 induction l with
 | nil => rw [patsI]; rfl
 | cons p l ih => rw [patsI, ih]; rfl
theorem patI_eq (p : Pat) : patI p = (patTH p.k p.n p.s (p.l.map fun p => ((p.k, p.l.length), patI p)), p.l.map patPT) := by
 cases p; rw [patI, patsI_eq, List.map_map]; rfl
theorem patPT_eq (p : Pat) : patPT p = if p.k = 6 /\ p.l.length ≠ 0 then sgT [40] :: (patT p ++ [sgT [41]]) else patT p := rfl
theorem tokL_map {α β : Type} (tf : Bool -> β -> List Tok) (g : α -> β) (l : List α) : ∀ b, tokL tf b (l.map g) = tokL (fun b a => tf b (g a)) b l := by
 induction l with
 | nil => intro b; rfl
 | cons a l ih => intro b; rw [List.map_cons, tokL, tokL, ih]
theorem patsRt_all (l : List Pat) : patsRt l = l.all patR := by
 induction l with
 | nil => rw [patsRt]; rfl
 | cons a l ih => rw [patsRt, ih]; rfl
theorem sumN_pats (l : List Pat) : sumN (fun p : Pat => 8 * p.z) l = 8 * patsZ l := by
 induction l with
 | nil => rfl
 | cons a l ih => rw [sumN, ih, patsZ]; omega
theorem Pat.z_pos (p : Pat) : 1 <= p.z := by rw [Pat.z_eq]; omega
theorem sLt {s : List UInt8} (h : sOk s) : s.length < 9223372036854775807 := Nat.lt_trans h (by decide)
theorem put_133 (p : Pat) (ih : Put 130 [p.v] (patR p) (patT p) (8 * p.z - 4)) : Put 133 [p.v] (patR p) (patPT p) (8 * p.z - 2) := fun fr bp nx0 H0 l0 b0 H nx hn hS => by
 have hz := p.z_pos
 rw [q133]
 refine Wq.natS hS fun hS => ?_
 simp only [stpF, sttF, List.length_map, nat_eq0]
 have L : ∀ b : Bool, b = decide ¬(p.k = 6 /\ p.l.length ≠ 0) -> WqR P pl X0 (.jump (l133_6 (ptr bp) (eptrV p.v) b H (nx + 1))) nx0 H0 (Done fr bp nx0 H0 l0 b0 (patR p) (patPT p) (8 * p.z - 2)) := by
  intro b hb
  refine Wq.jmp (q133_6 ..) (fun _ => rfl) ?_
  rw [patPT_eq]
  cases b with
  | true =>
    simp only [stpF, sttF, List.length_map]
    rw [if_neg (of_decide_eq_true hb.symm)]
    refine Wq.putS ih rfl hS (by omega) fun u H2 nx2 hS2 => ?_
    exact Wq.done hS2 (by simp) (fun _ => by simp) (by omega)
  | false =>
    simp only [stpF, sttF, List.length_map]
    rw [if_pos (Decidable.not_not.1 (of_decide_eq_false hb.symm))]
    refine Wq.sgn [40] hS (by omega) fun u H1 nx1 hS1 => ?_
    refine Wq.putS ih rfl hS1 (by omega) fun u H2 nx2 hS2 => ?_
    refine Wq.sgn [41] hS2 (by omega) fun u H3 nx3 hS3 => ?_
    exact Wq.done hS3 (by simp) (fun _ => by simp) (by omega)
 refine Wq.nite (fun h => L _ (by simp [h])) (fun h => ?_)
 exact L _ (by simp [h])
theorem put_162 (l : List Pat) (hl : l.length < big) (ih : ∀ a, a ∈ l -> Put 133 [a.v] (patR a) (patPT a) (8 * a.z - 2)) : Put 162 [patsR l] (patsRt l) (tokL (sepF [44] patPT) true l) (8 * patsZ l) := fun fr bp nx0 H0 l0 b0 H nx hn hS => by
 rw [q162]
 simp only [stpF, sttF, List.length_map]
 refine Wq.eachS l patR (sepF [44] patPT) (fun p => 8 * p.z) (fun i H nx => .jump (l162_5 (ptr bp) (patsR l) (i64 (l.length : Int)) (i64 (i : Int)) H nx)) hS (by rw [sumN_pats]; omega) (fun H1 nx1 hS1 => ?_) (fun i a H1 nx1 ok' ts' n' hg hlt hb hS1 ih' => ?_)
 . refine Wq.jmp (q162_5 ..) (fun _ => rfl) ?_
   simp only [stpF, sttF, List.length_map, not_lt_len]
   exact Wq.done hS1 (by rw [patsRt_all]; simp) (fun _ => by simp) (by rw [sumN_pats]; omega)
 . have hx : (l.map Pat.v)[i]? = some a.v := by simp [hg]
   have hm := List.mem_of_getElem? hg
   have hz := a.z_pos
   refine Wq.jmp (q162_5 ..) (fun _ => rfl) ?_
   simp only [stpF, sttF, List.length_map, is_lt_len hlt, ix_42 hx]
   refine Wq.varS zero_47 sz_47 rfl (nPat _) (oPat _) hS1 fun H2 nx2 hS2 => ?_
   have L : ∀ ts2 n2 H3 nx3, St fr bp nx0 H0 l0 b0 ok' ts2 n2 H3 nx3 -> ts2 = ts' ++ (if decide (i = 0) = true then [] else [sgT [44]]) -> n2 <= n' + 1 -> WqR P pl X0 (.jump (l162_12 (ptr bp) (eptrV a.v) (patsR l) (i64 (l.length : Int)) (i64 (i : Int)) H3 nx3)) nx0 H0 (Done fr bp nx0 H0 l0 b0 (patsRt l) (tokL (sepF [44] patPT) true l) (8 * patsZ l)) := by
    intro ts2 n2 H3 nx3 hS3 e en
    subst e
    refine Wq.jmp (q162_12 ..) (fun _ => rfl) ?_
    simp only [stpF, sttF, List.length_map]
    refine Wq.putS (ih a hm) rfl hS3 (by omega) fun u H4 nx4 hS4 => ?_
    simp only [stpF, wrap_succ (show i < 9223372036854775807 by have := sm_lt hl; omega)]
    refine ih' _ _ (hS4.mono rfl (fun _ => ?_) (by omega))
    unfold sepF; simp
   refine Wq.ite (fun h => ?_) (fun h => ?_)
   . refine Wq.sgn [44] hS2 (by omega) fun u H3 nx3 hS3 => ?_
     exact L _ _ _ _ hS3 (by rw [if_neg (by simp; omega)]) (by omega)
   . exact L _ _ _ _ hS2 (by rw [if_pos (by simp; omega)]; simp) (by omega)
theorem sumN_pats' (l : List Pat) : sumN (fun p : Pat => 8 * p.z - 2) l <= 8 * patsZ l := by
 induction l with
 | nil => simp [sumN]
 | cons a l ih => rw [sumN, patsZ]; omega
theorem patT_eq (p : Pat) : patT p = patTH p.k p.n p.s (p.l.map fun p => ((p.k, p.l.length), patI p)) := by unfold patT; rw [patI_eq]
theorem put_163 (p : Pat) (h6 : p.k = 6) (hp : p.ok) (ih : ∀ a, a ∈ p.l -> Put 133 [a.v] (patR a) (patPT a) (8 * a.z - 2)) (ih2 : ∀ q, q ∈ p.l -> ∀ a, a ∈ q.l -> Put 133 [a.v] (patR a) (patPT a) (8 * a.z - 2)) : Put 163 [p.v] (patR p) (patT p) (8 * p.z - 4) := fun fr bp nx0 H0 l0 b0 H nx hn hS => by
 rw [Pat.ok_iff] at hp
 have hz := p.z_eq
 have hlen := patsZ_len p.l
 rw [q163]
 refine Wq.natS hS fun hS => ?_
 simp only [stpF, sttF, List.length_map, nat_le1]
 have e0 : patR p = (patsRt p.l && (decide (p.n = 0) && if p.s = [58, 58] then (match p.l with | [q] => decide (q.k = 5) && decide (q.l.length = 2) | _ => false) else wordOk 4 p.s && decide (p.l.length <= 1))) := by
  rw [patR_eq]; unfold patHd; rw [h6]; simp <;> rfl
 have L6 : ∀ (r : Bool) H1 nx1, r = (decide (p.l.length <= 1) && decide (p.n = 0)) -> St fr bp nx0 H0 l0 b0 r [] 0 H1 nx1 -> WqR P pl X0 (.jump (l163_6 (ptr bp) (eptrV p.v) H1 nx1)) nx0 H0 (Done fr bp nx0 H0 l0 b0 (patR p) (patT p) (8 * p.z - 4)) := by
  intro r H1 nx1 hr hS1
  refine Wq.jmp (q163_6 ..) (fun _ => rfl) ?_
  simp only [stpF, sttF, List.length_map, txt_dec, nat_eq1, nat_eq2]
  refine Wq.ite (fun hs => ?_) (fun hs => ?_)
  . rw [if_pos hs] at e0
    have L10 : ∀ (c : Bool) H2 nx2, (c = true -> ∃ q a b, p.l = [q] /\ q.k = 5 /\ q.l = [a, b] /\ q.s = [] /\ q.n = 0) -> (c = false -> patR p = false) -> St fr bp nx0 H0 l0 b0 (r && c) [] 0 H2 nx2 -> WqR P pl X0 (.jump (l163_10 (ptr bp) (eptrV p.v) H2 nx2)) nx0 H0 (Done fr bp nx0 H0 l0 b0 (patR p) (patT p) (8 * p.z - 4)) := by
     intro c H2 nx2 hc hc2 hS2
     refine Wq.jmp (q163_10 ..) (fun _ => rfl) ?_
     simp only [stpF, fp_116_1, hS2.bad]
     refine Wq.bK (fun hb => ?_) (fun hb => ?_)
     . have hb0 : b0 = false := by cases b0 with
        | false => rfl
        | true => simp at hb
       have hrc : (r && c) = true := by rw [hb0] at hb; simpa using hb
       rw [Bool.and_eq_true] at hrc
       obtain ⟨q, a, b, hl, hk, hql, hqs, hqn⟩ := hc hrc.2
       have hr' := hrc.1
       rw [hr, Bool.and_eq_true, decide_eq_true_eq, decide_eq_true_eq] at hr'
       have hx : (p.l.map Pat.v)[0]? = some q.v := by rw [hl]; rfl
       have hx' := ix_42 hx .i64
       rw [show ((0 : Nat) : Int) = 0 from rfl] at hx'
       have hy : (q.l.map Pat.v)[0]? = some a.v := by rw [hql]; rfl
       have hy' := ix_42 hy .i64
       rw [show ((0 : Nat) : Int) = 0 from rfl] at hy'
       have hw : (q.l.map Pat.v)[1]? = some b.v := by rw [hql]; rfl
       have hw' := ix_42 hw .i64
       rw [show ((1 : Nat) : Int) = 1 from rfl] at hw'
       simp only [stpF, sttF, List.length_map, hx', hy', hw']
       have hqm : q ∈ p.l := by rw [hl]; simp
       have ha : a ∈ q.l := by rw [hql]; simp
       have hbm : b ∈ q.l := by rw [hql]; simp
       have hqz := q.z_eq
       have z1 : patsZ p.l = q.z + 0 := by rw [hl]; rfl
       have z2 : patsZ q.l = a.z + (b.z + 0) := by rw [hql]; rfl
       have pa := a.z_pos
       have pb := b.z_pos
       refine Wq.putS (ih2 q hqm a ha) rfl hS2 (by omega) fun u H3 nx3 hS3 => ?_
       refine Wq.sgn [58, 58] hS3 (by omega) fun u H4 nx4 hS4 => ?_
       refine Wq.putS (ih2 q hqm b hbm) rfl hS4 (by omega) fun u H5 nx5 hS5 => ?_
       refine Wq.done hS5 ?_ (fun _ => ?_) (by omega)
       . rw [e0, hl, hrc.1, hrc.2]
         simp only [patsRt, hk, hql, hr'.2, decide_true, Bool.true_and, Bool.and_true, List.length_cons, List.length_nil]
         rw [patR_eq q, hql, hk, hqs, hqn]
         simp [patsRt, patHd]
       . rw [patT_eq, h6, hs, hl]
         simp only [patTH, List.map_cons, List.map_nil]
         rw [patI_eq q, hql]
         simp
     . refine Wq.skip hS2 (by rw [Bool.not_eq_false'] at hb; exact hb) (fun g1 g2 => ?_) (by omega)
       rcases Bool.eq_false_or_eq_true c with h | h
       . rw [h, Bool.and_true] at g2
         obtain ⟨q, a, b, hl, _⟩ := hc h
         rw [e0]
         rw [g2, hl] at hr
         have : decide (p.n = 0) = false := by simpa using hr.symm
         rw [this]; simp
       . exact hc2 h
    have F : ∀ (c : Bool), (c = true -> ∃ q a b, p.l = [q] /\ q.k = 5 /\ q.l = [a, b] /\ q.s = [] /\ q.n = 0) -> (c = false -> patR p = false) -> WqR P pl X0 (callQ (.call 127 [ptr bp, .bool c] false none H1 nx1) (fun x H nx => .jump (l163_10 (ptr bp) (eptrV p.v) H nx)) panK) nx0 H0 (Done fr bp nx0 H0 l0 b0 (patR p) (patT p) (8 * p.z - 4)) := by
     intro c hc hc2
     refine Wq.putS (put_127 c) rfl hS1 (by omega) fun u H2 nx2 hS2 => ?_
     exact L10 c H2 nx2 hc hc2 hS2
    match hl : p.l with
    | [] =>
      rw [hl] at e0
      simp only [stpF, show decide (([] : List Pat).length = 1) = false by simp]
      exact F false nofun (fun _ => by rw [e0]; simp)
    | q :: q' :: r =>
      rw [hl] at e0
      simp only [stpF, show decide ((q :: q' :: r).length = 1) = false by simp]
      exact F false nofun (fun _ => by rw [e0]; simp)
    | [q] =>
      rw [hl] at e0
      have hx : (p.l.map Pat.v)[0]? = some q.v := by rw [hl]; rfl
      have hx' := ix_42 hx .i64
      rw [show ((0 : Nat) : Int) = 0 from rfl, hl] at hx'
      simp only [stpF, sttF, List.length_map, show decide (([q] : List Pat).length = 1) = true by simp, hx', nat_eq2, txt_dec]
      have e1 : patR p = (patR q && (decide (p.n = 0) && (decide (q.k = 5) && decide (q.l.length = 2)))) := by rw [e0]; simp [patsRt]
      refine Wq.ite (fun g1 => ?_) (fun g1 => F false nofun (fun _ => by rw [e1]; simp [g1]))
      refine Wq.ite (fun g2 => ?_) (fun g2 => F false nofun (fun _ => by rw [e1]; simp [g2]))
      have e2 : patR q = (patsRt q.l && (decide (q.n = 0) && (decide (q.s = []) && !decide (q.l.length = 1)))) := by rw [patR_eq, g1]; simp [patHd]
      refine Wq.ite (fun g3 => ?_) (fun g3 => F false nofun (fun _ => by rw [e1, e2]; simp [g3]))
      refine F _ (fun g4 => ?_) (fun g4 => by rw [e1, e2, g4]; simp)
      obtain ⟨a, b, hq⟩ : ∃ a b, q.l = [a, b] := by
       match h : q.l with
       | [] => rw [h] at g2; simp at g2
       | [_] => rw [h] at g2; simp at g2
       | [a, b] => exact ⟨a, b, rfl⟩
       | a :: b :: c :: r => rw [h] at g2; simp at g2
      exact ⟨q, a, b, hl, g1, hq, g3, of_decide_eq_true g4⟩
  . rw [if_neg hs] at e0
    simp only [stpF, bd_31_t]
    refine Wq.putS (put_132 ⟨4, p.s, 0, 0⟩ (sLt hp.2.1)) rfl hS1 (by omega) fun u H2 nx2 hS2 => ?_
    have hsum := sumN_pats' p.l
    refine Wq.eachS p.l patR (fun _ => patPT) (fun p => 8 * p.z - 2) (fun i H nx => .jump (l163_23 (ptr bp) (patsR p.l) (i64 (p.l.length : Int)) (i64 (i : Int)) H nx)) hS2 (by omega) (fun H1 nx1 hS1 => ?_) (fun i a H1 nx1 ok' ts' n' hg hlt hb hS1 ih' => ?_)
    . refine Wq.jmp (q163_23 ..) (fun _ => rfl) ?_
      simp only [stpF, sttF, List.length_map, not_lt_len]
      refine Wq.done hS1 ?_ (fun _ => ?_) (by omega)
      . rw [e0, hr, patsRt_all]
        show _ = (p.l.all patR && (decide (p.n = 0) && (tokOk ⟨4, p.s, 0, 0⟩ && decide (p.l.length <= 1))))
        cases p.l.all patR <;> cases decide (p.n = 0) <;> cases tokOk ⟨4, p.s, 0, 0⟩ <;> cases decide (p.l.length <= 1) <;> rfl
      . rw [patT_eq, h6]
        simp only [patTH]
        rw [if_neg (by omega), if_neg (by omega), if_neg (by omega), if_neg (by omega), if_neg (by omega), if_pos trivial, if_neg hs, tokL_map]
        rfl
    . have hx : (p.l.map Pat.v)[i]? = some a.v := by simp [hg]
      have hm := List.mem_of_getElem? hg
      refine Wq.jmp (q163_23 ..) (fun _ => rfl) ?_
      simp only [stpF, sttF, List.length_map, is_lt_len hlt, ix_42 hx]
      refine Wq.varS zero_47 sz_47 rfl (nPat _) (oPat _) hS1 fun H2 nx2 hS2 => ?_
      refine Wq.putS (ih a hm) rfl hS2 (by omega) fun u H4 nx4 hS4 => ?_
      simp only [stpF, wrap_succ (show i < 9223372036854775807 by have := sm_lt hp.2.2.1; omega)]
      exact ih' _ _ hS4
 refine Wq.bK (fun h => ?_) (fun h => ?_)
 . refine Wq.putS (put_127 _) rfl hS (by omega) fun u H1 nx1 hS1 => ?_
   exact L6 _ H1 nx1 (by simp [h]) hS1
 . refine Wq.putS (put_127 _) rfl hS (by omega) fun u H1 nx1 hS1 => ?_
   exact L6 _ H1 nx1 (by simp [h]) hS1
end
end Go.Proofs.YthjhonhhbddhkaaGreatDoor
/- The printer: patterns, types, constructors, datatypes. -/
namespace Go.Proofs.YthjhonhhbddhkaaGreatDoor
open Go.Ev Go.RowKit
noncomputable section
set_option maxRecDepth 100000
set_option linter.unusedVariables false
set_option linter.unusedSimpArgs false
variable {nx0 : Nat} {H0 : T OB}
variable {fr : Nat -> List Value -> TypeId -> Prop} {bp : Nat} {l0 : List Tok} {b0 : Bool} {ok : Bool} {ts : List Tok} {n nx : Nat} {H : T OB} {R : Value -> T OB -> Nat -> Prop}
theorem PB_of {H : T OB} {b : Nat} {p : Pat} (h : IsB H b p.cs 47) : rdLoad P H 3 (some (.pointer (some ⟨b, 0, none⟩))) = some (i64 p.k) /\ rdLoad P H 2 (some (.pointer (some ⟨b, 1, none⟩))) = some (i64 p.n) /\ rdLoad P H 9 (some (.pointer (some ⟨b, 2, none⟩))) = some (txt p.s) /\ rdLoad P H 42 (some (.pointer (some ⟨b, 3, none⟩))) = some (patsR p.l) /\ rdLoad P H 47 (some (.pointer (some ⟨b, 0, none⟩))) = some p.v := by
 rw [Pat.cs_eq] at h
 rw [Pat.v_eq]
 exact ⟨rdLoad_cell h agg_3 rfl, rdLoad_cell h agg_2 rfl, rdLoad_cell h agg_9 rfl, rdLoad_cell h agg_42 rfl, rdLoad_agg h agg_47 sz_47 (by simp)⟩
theorem put_130a (p : Pat) (hp : p.ok) (h162 : Put 162 [patsR p.l] (patsRt p.l) (tokL (sepF [44] patPT) true p.l) (8 * patsZ p.l)) (h163 : p.k = 6 -> Put 163 [p.v] (patR p) (patT p) (8 * p.z - 4)) : Put 130 [p.v] (patR p) (patT p) (8 * p.z - 4) := fun fr bp nx0 H0 l0 b0 H nx hn hS => by
 rw [Pat.ok_iff] at hp
 have hz := p.z_eq
 have hn0 := hS.2.1.1
 rw [q130]
 refine Wq.boxS hS fun H1 hne hS1 => ?_
 have hB := PB_of (p := p) hS1.get
 simp only [stpF, sttF, List.length_map, fp_47_0, fp_47_1, fp_47_2, fp_47_3, hB.1, hB.2.1, hB.2.2.1, hB.2.2.2.1, hB.2.2.2.2, txt_dec, nat_eq0, nat_eq1]
 have e0 := patR_eq p
 have e1 := patT_eq p
 unfold patHd at e0
 unfold patTH at e1
 have eL : ∀ g : p.l.length = 0, patsRt p.l = true := fun g => by rw [List.eq_nil_of_length_eq_zero g]; rfl
 have L14 : p.k = 1 -> ∀ (r : Bool) H2 nx2, St (frB fr nx p.v.cells.toList 47) bp nx0 H0 l0 b0 r [] 0 H2 nx2 -> r = patR p -> WqR P pl X0 (.jump (l130_14 (ptr bp) H2 nx2)) nx0 H0 (Done fr bp nx0 H0 l0 b0 (patR p) (patT p) (8 * p.z - 4)) := by
  intro hk r H2 nx2 hS2 hr
  refine Wq.jmp (q130_14 ..) (fun _ => rfl) ?_
  refine Wq.sgn [95] hS2 (by omega) fun u H3 nx3 hS3 => ?_
  exact Wq.done hS3.drop hr (fun _ => by rw [e1, if_pos hk]; rfl) (by omega)
 have L20 : p.k = 2 -> ∀ (r : Bool) H2 nx2, St (frB fr nx p.v.cells.toList 47) bp nx0 H0 l0 b0 r [] 0 H2 nx2 -> r = (decide (p.l.length = 0) && decide (p.n = 0)) -> WqR P pl X0 (.jump (l130_20 (ptr bp) (.pointer (some ⟨nx, 0, none⟩)) H2 nx2)) nx0 H0 (Done fr bp nx0 H0 l0 b0 (patR p) (patT p) (8 * p.z - 4)) := by
  intro hk r H2 nx2 hS2 hr
  have hB := PB_of (p := p) hS2.get
  refine Wq.jmp (q130_20 ..) (fun _ => rfl) ?_
  simp only [stpF, fp_47_2, hB.2.2.1, bd_31_t]
  refine Wq.putS (put_132 ⟨3, p.s, 0, 0⟩ (sLt hp.2.1)) rfl hS2 (by omega) fun u H3 nx3 hS3 => ?_
  refine Wq.done hS3.drop ?_ (fun _ => by rw [e1, hk]; rfl) (by omega)
  rw [e0, hk, hr]
  show _ = (patsRt p.l && (decide (p.n = 0) && (tokOk ⟨3, p.s, 0, 0⟩ && decide (p.l.length = 0))))
  by_cases g : p.l.length = 0
  . rw [eL g]; cases decide (p.n = 0) <;> simp [g]
  . simp [g]
 have L38 : p.k = 4 -> ∀ (r : Bool) H2 nx2, St (frB fr nx p.v.cells.toList 47) bp nx0 H0 l0 b0 r [] 0 H2 nx2 -> r = (decide (p.l.length = 0) && decide (p.n = 0)) -> WqR P pl X0 (.jump (l130_38 (ptr bp) (.pointer (some ⟨nx, 0, none⟩)) H2 nx2)) nx0 H0 (Done fr bp nx0 H0 l0 b0 (patR p) (patT p) (8 * p.z - 4)) := by
  intro hk r H2 nx2 hS2 hr
  have hB := PB_of (p := p) hS2.get
  refine Wq.jmp (q130_38 ..) (fun _ => rfl) ?_
  simp only [stpF, fp_47_2, hB.2.2.1, bd_31_t]
  refine Wq.putS (put_132 ⟨2, p.s, 0, 0⟩ (sLt hp.2.1)) rfl hS2 (by omega) fun u H3 nx3 hS3 => ?_
  refine Wq.done hS3.drop ?_ (fun _ => by rw [e1, hk]; rfl) (by omega)
  rw [e0, hk, hr]
  show _ = (patsRt p.l && (decide (p.n = 0) && decide (p.l.length = 0)))
  have : tokOk ⟨2, p.s, 0, 0⟩ = true := by simp [tokOk]
  rw [this]
  by_cases g : p.l.length = 0
  . rw [eL g]; cases decide (p.n = 0) <;> simp [g]
  . simp [g]
 have L44 : p.k = 5 -> ∀ (r : Bool) H2 nx2, St (frB fr nx p.v.cells.toList 47) bp nx0 H0 l0 b0 r [] 0 H2 nx2 -> r = (!decide (p.l.length = 1) && (decide (p.s = []) && decide (p.n = 0))) -> WqR P pl X0 (.jump (l130_44 (ptr bp) (.pointer (some ⟨nx, 0, none⟩)) H2 nx2)) nx0 H0 (Done fr bp nx0 H0 l0 b0 (patR p) (patT p) (8 * p.z - 4)) := by
  intro hk r H2 nx2 hS2 hr
  refine Wq.jmp (q130_44 ..) (fun _ => rfl) ?_
  refine Wq.sgn [40] hS2 (by omega) fun u H3 nx3 hS3 => ?_
  have hB := PB_of (p := p) hS3.get
  simp only [stpF, fp_47_3, hB.2.2.2.1]
  refine Wq.putS h162 rfl hS3 (by omega) fun u H4 nx4 hS4 => ?_
  refine Wq.sgn [41] hS4 (by omega) fun u H5 nx5 hS5 => ?_
  refine Wq.done hS5.drop ?_ (fun _ => ?_) (by omega)
  . rw [e0, hk, hr]
    show _ = (patsRt p.l && (decide (p.n = 0) && (decide (p.s = []) && !decide (p.l.length = 1))))
    cases patsRt p.l <;> cases decide (p.n = 0) <;> cases decide (p.s = []) <;> cases decide (p.l.length = 1) <;> rfl
  . rw [e1, hk, tokL_map]
    simp
    rfl
 have L26 : p.k = 3 -> ∀ (r : Bool) H2 nx2, St (frB fr nx p.v.cells.toList 47) bp nx0 H0 l0 b0 r [] 0 H2 nx2 -> r = (decide (p.l.length = 0) && (decide (p.s = []) && decide (-4611686018427387903 <= p.n))) -> WqR P pl X0 (.jump (l130_26 (ptr bp) (.pointer (some ⟨nx, 0, none⟩)) H2 nx2)) nx0 H0 (Done fr bp nx0 H0 l0 b0 (patR p) (patT p) (8 * p.z - 4)) := by
  intro hk r H2 nx2 hS2 hr
  have hB := PB_of (p := p) hS2.get
  have e2 : patR p = (r && decide (p.n <= 4611686018427387903)) := by
   rw [e0, hk, hr]
   show (patsRt p.l && (decide (p.s = []) && (decide (p.l.length = 0) && (decide (-4611686018427387903 <= p.n) && decide (p.n <= 4611686018427387903))))) = _
   by_cases g : p.l.length = 0
   . rw [eL g]; cases decide (p.s = []) <;> simp [g]
   . simp [g]
  have e3 : patT p = if p.n < 0 then [sgT [126], ⟨1, [], -p.n, 0⟩] else [⟨1, [], p.n, 0⟩] := by rw [e1, hk]; rfl
  have L28 : ∀ c : Bool, c = (decide (p.n < 0) && !(b0 || !r)) -> WqR P pl X0 (.jump (l130_28 (ptr bp) (.pointer (some ⟨nx, 0, none⟩)) c H2 nx2)) nx0 H0 (Done fr bp nx0 H0 l0 b0 (patR p) (patT p) (8 * p.z - 4)) := by
   intro c hc
   refine Wq.jmp (q130_28 ..) (fun _ => rfl) ?_
   cases c with
   | true =>
     have hc' := hc.symm
     rw [Bool.and_eq_true, decide_eq_true_eq, Bool.not_eq_true', Bool.or_eq_false_iff, Bool.not_eq_false'] at hc'
     obtain ⟨hneg, hb0, hr1⟩ := hc'
     simp only [stpF]
     have hge : -4611686018427387903 <= p.n := by
      rw [hr1] at hr
      have := hr.symm
      rw [Bool.and_eq_true, Bool.and_eq_true, decide_eq_true_eq, decide_eq_true_eq, decide_eq_true_eq] at this
      exact this.2.2
     refine Wq.sgn [126] hS2 (by omega) fun u H3 nx3 hS3 => ?_
     have hB := PB_of (p := p) hS3.get
     simp only [stpF, fp_47_1, hB.2.1, unV_neg]
     rw [wrap_id (show -9223372036854775808 <= 0 - p.n /\ 0 - p.n < 9223372036854775808 by omega)]
     refine Wq.putB (off := 1) (c' := (Pat.mk p.k (0 - p.n) p.s p.l).cs) (u := i64 (0 - p.n)) hS3 hn0 hne sz_2 rfl rfl (by show 1 < p.cs.length; rw [Pat.cs_eq]; simp) (by show p.cs.set 1 _ = _; rw [Pat.cs_eq, Pat.cs_eq]; rfl) fun H4 hS4 => ?_
     have hB4 := PB_of (p := Pat.mk p.k (0 - p.n) p.s p.l) hS4.get
     have hv : rdLoad P H4 2 (some (.pointer (some ⟨nx, 1, none⟩))) = some (i64 (0 - p.n)) := hB4.2.1
     simp only [stpF, fp_47_1, hv, bd_31_n]
     refine Wq.putS (put_132 ⟨1, [], 0 - p.n, 0⟩ (by simp)) rfl hS4 (by omega) fun u H5 nx5 hS5 => ?_
     refine Wq.done hS5.drop ?_ (fun _ => ?_) (by omega)
     . rw [e2, hr1]
       have : tokOk ⟨1, [], 0 - p.n, 0⟩ = true := by
        unfold tokOk
        simp
        omega
       rw [this]
       simp
       omega
     . rw [e3, if_pos hneg]
       simp
   | false =>
     simp only [stpF, fp_47_1, hB.2.1, bd_31_n]
     refine Wq.putS (put_132 ⟨1, [], p.n, 0⟩ (by simp)) rfl hS2 (by omega) fun u H5 nx5 hS5 => ?_
     have et : tokOk ⟨1, [], p.n, 0⟩ = (decide (0 <= p.n) && decide (p.n <= 4611686018427387903)) := by
      unfold tokOk
      simp
     by_cases hneg : p.n < 0
     . have hb : (b0 || !r) = true := by clear hS2 hS5; cases b0 <;> cases r <;> simp [hneg] at hc ⊢
       have e4 : tokOk ⟨1, [], p.n, 0⟩ = false := by
        rw [et]; simp; omega
       refine Wq.skip hS5.drop (by rw [e4]; simp) (fun g1 _ => ?_) (by omega)
       rw [g1] at hb
       have : r = false := by simpa using hb
       rw [e2, this]; rfl
     . refine Wq.done hS5.drop ?_ (fun _ => by rw [e3, if_neg hneg]; simp) (by omega)
       rw [e2, et]
       have : decide (0 <= p.n) = true := by simp; omega
       rw [this, Bool.true_and]
  refine Wq.jmp (q130_26 ..) (fun _ => rfl) ?_
  simp only [stpF, fp_47_1, hB.2.1]
  refine Wq.ite (fun g => ?_) (fun g => ?_)
  . simp only [stpF, fp_116_1, hS2.bad]
    exact L28 _ (by simp [g])
  . exact L28 _ (by simp [g])
 refine Wq.ite (fun hk => ?_) (fun h1 => ?_)
 . have e2 : patR p = (decide (p.l.length = 0) && (decide (p.s = []) && decide (p.n = 0))) := by
    rw [e0, if_pos hk, hk]
    show (patsRt p.l && (decide (p.n = 0) && (decide (p.s = []) && decide (p.l.length = 0)))) = _
    by_cases g : p.l.length = 0
    . rw [eL g]; cases decide (p.n = 0) <;> simp [g]
    . simp [g]
   have F : ∀ c : Bool, c = (decide (p.l.length = 0) && (decide (p.s = []) && decide (p.n = 0))) -> WqR P pl X0 (callQ (.call 127 [ptr bp, .bool c] false none H1 (nx + 1)) (fun x H' nx' => .jump (l130_14 (ptr bp) H' nx')) panK) nx0 H0 (Done fr bp nx0 H0 l0 b0 (patR p) (patT p) (8 * p.z - 4)) := by
    intro c hc
    refine Wq.putS (put_127 c) rfl hS1 (by omega) fun u H2 nx2 hS2 => ?_
    exact L14 hk _ _ _ hS2 (by rw [e2, hc]; simp)
   refine Wq.ite (fun g => ?_) (fun g => F _ (by simp [g]))
   refine Wq.ite (fun g2 => ?_) (fun g2 => F _ (by simp [g2]))
   exact F _ (by simp [g, g2])
 rw [if_neg h1] at e1
 refine Wq.ite (fun hk => ?_) (fun h2 => ?_)
 . have F : ∀ c : Bool, c = (decide (p.l.length = 0) && decide (p.n = 0)) -> WqR P pl X0 (callQ (.call 127 [ptr bp, .bool c] false none H1 (nx + 1)) (fun x H' nx' => .jump (l130_20 (ptr bp) (.pointer (some ⟨nx, 0, none⟩)) H' nx')) panK) nx0 H0 (Done fr bp nx0 H0 l0 b0 (patR p) (patT p) (8 * p.z - 4)) := by
    intro c hc
    refine Wq.putS (put_127 c) rfl hS1 (by omega) fun u H2 nx2 hS2 => ?_
    exact L20 hk _ _ _ hS2 hc
   refine Wq.ite (fun g => ?_) (fun g => F _ (by simp [g]))
   exact F _ (by simp [g])
 rw [if_neg h2] at e1
 refine Wq.ite (fun hk => ?_) (fun h3 => ?_)
 . have F : ∀ c : Bool, c = (decide (p.l.length = 0) && (decide (p.s = []) && decide (-4611686018427387903 <= p.n))) -> WqR P pl X0 (callQ (.call 127 [ptr bp, .bool c] false none H1 (nx + 1)) (fun x H' nx' => .jump (l130_26 (ptr bp) (.pointer (some ⟨nx, 0, none⟩)) H' nx')) panK) nx0 H0 (Done fr bp nx0 H0 l0 b0 (patR p) (patT p) (8 * p.z - 4)) := by
    intro c hc
    refine Wq.putS (put_127 c) rfl hS1 (by omega) fun u H2 nx2 hS2 => ?_
    exact L26 hk _ _ _ hS2 hc
   refine Wq.ite (fun g => ?_) (fun g => F _ (by simp [g]))
   refine Wq.ite (fun g2 => ?_) (fun g2 => F _ (by simp [g2]))
   exact F _ (by simp [g, g2])
 rw [if_neg h3] at e1
 refine Wq.ite (fun hk => ?_) (fun h4 => ?_)
 . have F : ∀ c : Bool, c = (decide (p.l.length = 0) && decide (p.n = 0)) -> WqR P pl X0 (callQ (.call 127 [ptr bp, .bool c] false none H1 (nx + 1)) (fun x H' nx' => .jump (l130_38 (ptr bp) (.pointer (some ⟨nx, 0, none⟩)) H' nx')) panK) nx0 H0 (Done fr bp nx0 H0 l0 b0 (patR p) (patT p) (8 * p.z - 4)) := by
    intro c hc
    refine Wq.putS (put_127 c) rfl hS1 (by omega) fun u H2 nx2 hS2 => ?_
    exact L38 hk _ _ _ hS2 hc
   refine Wq.ite (fun g => ?_) (fun g => F _ (by simp [g]))
   exact F _ (by simp [g])
 rw [if_neg h4] at e1
 refine Wq.ite (fun hk => ?_) (fun h5 => ?_)
 . have F : ∀ c : Bool, c = (!decide (p.l.length = 1) && (decide (p.s = []) && decide (p.n = 0))) -> WqR P pl X0 (callQ (.call 127 [ptr bp, .bool c] false none H1 (nx + 1)) (fun x H' nx' => .jump (l130_44 (ptr bp) (.pointer (some ⟨nx, 0, none⟩)) H' nx')) panK) nx0 H0 (Done fr bp nx0 H0 l0 b0 (patR p) (patT p) (8 * p.z - 4)) := by
    intro c hc
    refine Wq.putS (put_127 c) rfl hS1 (by omega) fun u H2 nx2 hS2 => ?_
    exact L44 hk _ _ _ hS2 hc
   refine Wq.nite (fun g => ?_) (fun g => F _ (by simp [g]))
   refine Wq.ite (fun g2 => ?_) (fun g2 => F _ (by simp [g2]))
   exact F _ (by simp [g, g2])
 rw [if_neg h5] at e1
 refine Wq.ite (fun hk => ?_) (fun h6 => ?_)
 . refine Wq.putS (h163 hk) rfl hS1 (by omega) fun u H2 nx2 hS2 => ?_
   exact Wq.done hS2.drop (by simp) (fun _ => by simp) (by omega)
 . rw [if_neg h6] at e1
   have e2 : patR p = false := by
    rw [e0, if_neg h1, if_neg h2, if_neg h3, if_neg h4, if_neg h5, if_neg h6]; simp
   refine Wq.bad hS1 fun H2 hS2 => ?_
   exact Wq.done hS2.drop e2.symm (fun q => by rw [e2] at q; cases q) (by omega)
theorem pat_both (p : Pat) (hp : p.ok) : Put 130 [p.v] (patR p) (patT p) (8 * p.z - 4) /\ Put 133 [p.v] (patR p) (patPT p) (8 * p.z - 2) /\ ∀ a, a ∈ p.l -> Put 133 [a.v] (patR a) (patPT a) (8 * a.z - 2) := by
 refine Pat.ind (p := fun p => p.ok -> Put 130 [p.v] (patR p) (patT p) (8 * p.z - 4) /\ Put 133 [p.v] (patR p) (patPT p) (8 * p.z - 2) /\ ∀ a, a ∈ p.l -> Put 133 [a.v] (patR a) (patPT a) (8 * a.z - 2)) (fun p ih hp => ?_) p hp
 have hp' := (Pat.ok_iff p).1 hp
 have h1 : ∀ a, a ∈ p.l -> Put 133 [a.v] (patR a) (patPT a) (8 * a.z - 2) := fun a ha => (ih a ha (hp'.2.2.2 a ha)).2.1
 have h := put_130a p hp (put_162 p.l hp'.2.2.1 h1) fun hk => put_163 p hk hp h1 fun q hq => (ih q hq (hp'.2.2.2 q hq)).2.2
 exact ⟨h, put_133 p h, h1⟩
theorem put_130 (p : Pat) (hp : p.ok) : Put 130 [p.v] (patR p) (patT p) (8 * p.z - 4) := (pat_both p hp).1
theorem put_133' (p : Pat) (hp : p.ok) : Put 133 [p.v] (patR p) (patPT p) (8 * p.z - 2) := (pat_both p hp).2.1
end
end Go.Proofs.YthjhonhhbddhkaaGreatDoor
/- The printer: types, constructors, datatypes. -/
namespace Go.Proofs.YthjhonhhbddhkaaGreatDoor
open Go.Ev Go.RowKit
noncomputable section
set_option maxRecDepth 100000
set_option linter.unusedVariables false
set_option linter.unusedSimpArgs false
variable {nx0 : Nat} {H0 : T OB}
variable {fr : Nat -> List Value -> TypeId -> Prop} {bp : Nat} {l0 : List Tok} {b0 : Bool} {ok : Bool} {ts : List Tok} {n nx : Nat} {H : T OB} {R : Value -> T OB -> Nat -> Prop}
theorem Wq.map2S {t kt et : TypeId} {d : TypeDesc} {k1 v1 k2 v2 : Value} {k : Value -> T OB -> Nat -> Q} (hu : P.underlying t = some (.map kt et)) (hd : P.underlying kt = some d) (hkk : keyKind d = true) (h0 : Instr.findNow d k1 [] 0 = some none) (h1 : Instr.findNow d k2 [⟨k1, v1, 0⟩] 0 = some none) (hS : St fr bp nx0 H0 l0 b0 ok ts n H nx)
 (hk : ∀ m H' nx', (∀ kv ok, rdLookup P H' t (some m) (some kv) ok = lookV P et ok (Instr.findNow d kv [⟨k1, v1, 0⟩, ⟨k2, v2, 1⟩] 0)) -> St fr bp nx0 H0 l0 b0 ok ts n H' nx' -> WqR P pl X0 (k m H' nx') nx0 H0 R) :
 WqR P pl X0 (effQ (efMakeMap H nx) fun m H nx => effQ (efMapUpdate P H nx t (some m) (some k1) (some v1)) fun _ H nx => effQ (efMapUpdate P H nx t (some m) (some k2) (some v2)) fun _ H nx => k m H nx) nx0 H0 R := by
 have hn0 := hS.2.1.1
 refine Wq.mkmap hS.2.1 fun H1 m1 kb1 km1 hA1 => ?_
 refine Wq.upd hu hd hkk m1 h0 hA1 hn0 fun H2 m2 kb2 km2 hA2 => ?_
 refine Wq.upd hu hd hkk m2 h1 hA2 hn0 fun H3 m3 kb3 km3 hA3 => ?_
 refine hk _ H3 (nx + 1) (fun kv ok => rdLookup_of hu hd hkk m3) (hS.keep' hA3 (by omega) fun b l e hb h => kb3 _ _ _ (by omega) (kb2 _ _ _ (by omega) (kb1 _ _ _ hb h)))
abbrev TI := (Int × Nat) × List Tok
def partY (x : TI) : List Tok := if x.1.1 = 1 \/ (x.1.1 = 2 /\ x.1.2 = 0) then x.2 else sgT [40] :: (x.2 ++ [sgT [41]])
def nameT (s : List UInt8) : List Tok := if s = [114, 101, 102] then [kyT s] else [⟨3, s, 0, 0⟩]
def tyTH (k : Int) (s : List UInt8) (q : List TI) : List Tok :=
 if k = 1 then [⟨5, s, 0, 0⟩]
 else if k = 3 then tokL (sepF [45, 62] partY) true q
 else if k = 4 then tokL (sepF [42] partY) true q
 else if k = 2 then if 1 < q.length then sgT [40] :: (tokL (sepF [44] partY) true q ++ (sgT [41] :: nameT s)) else tokL (sepF [44] partY) true q ++ nameT s
 else []
mutual
def tyT : TyS -> List Tok
 | .mk k s l => tyTH k s (tysI l)
def tysI : List TyS -> List TI
 | [] => []
 | t :: l => ((t.k, t.l.length), tyT t) :: tysI l
end
def tyI (t : TyS) : TI := ((t.k, t.l.length), tyT t)
def tyPT (t : TyS) : List Tok := partY (tyI t)
theorem tysI_eq (l : List TyS) : tysI l = l.map tyI := by
 induction l with
 | nil => rw [tysI]; rfl
 | cons p l ih => rw [tysI, ih]; rfl
theorem tyT_eq (t : TyS) : tyT t = tyTH t.k t.s (t.l.map tyI) := by cases t; rw [tyT, tysI_eq]; rfl
theorem tyPT_eq (t : TyS) : tyPT t = if t.k = 1 \/ (t.k = 2 /\ t.l.length = 0) then tyT t else sgT [40] :: (tyT t ++ [sgT [41]]) := rfl
theorem tysRt_all (l : List TyS) : tysRt l = l.all tyR := by
 induction l with
 | nil => rw [tysRt]; rfl
 | cons a l ih => rw [tysRt, ih]; rfl
theorem sumN_tys (l : List TyS) : sumN (fun p : TyS => 8 * p.z - 1) l <= 8 * tysZ l := by
 induction l with
 | nil => simp [sumN]
 | cons a l ih => rw [sumN, tysZ]; omega
theorem TyS.z_pos (p : TyS) : 1 <= p.z := by rw [TyS.z_eq]; omega
theorem put_186 (s : List UInt8) (hs : s.length < 9223372036854775807) : Put 186 [txt s] (decide (s = [114, 101, 102]) || wordOk 3 s) (nameT s) 1 := fun fr bp nx0 H0 l0 b0 H nx hn hS => by
 rw [q186]
 simp only [stpF, txt_dec]
 unfold nameT
 refine Wq.ite (fun g => ?_) (fun g => ?_)
 . refine Wq.key s hS (by omega) fun u H2 nx2 hS2 => ?_
   exact Wq.done hS2 (by simp [g]) (fun _ => by rw [if_pos g]; simp) (by omega)
 . simp only [stpF, bd_31_t]
   refine Wq.putS (put_132 ⟨3, s, 0, 0⟩ hs) rfl hS (by omega) fun u H2 nx2 hS2 => ?_
   exact Wq.done hS2 (by simp [g, wordOk]) (fun _ => by rw [if_neg g]; simp) (by omega)
theorem put_185 (t : TyS) (ih : Put 171 [t.v] (tyR t) (tyT t) (8 * t.z - 4)) : Put 185 [t.v] (tyR t) (tyPT t) (8 * t.z - 2) := fun fr bp nx0 H0 l0 b0 H nx hn hS => by
 have hz := t.z_pos
 rw [q185]
 refine Wq.natS hS fun hS => ?_
 simp only [stpF, sttF, List.length_map, nat_eq0]
 have L : ∀ b : Bool, b = decide (t.k = 1 \/ (t.k = 2 /\ t.l.length = 0)) -> WqR P pl X0 (.jump (l185_6 (ptr bp) (eptrV t.v) b H (nx + 1))) nx0 H0 (Done fr bp nx0 H0 l0 b0 (tyR t) (tyPT t) (8 * t.z - 2)) := by
  intro b hb
  refine Wq.jmp (q185_6 ..) (fun _ => rfl) ?_
  rw [tyPT_eq]
  cases b with
  | true =>
    simp only [stpF, sttF, List.length_map]
    rw [if_pos (of_decide_eq_true hb.symm)]
    refine Wq.putS ih rfl hS (by omega) fun u H2 nx2 hS2 => ?_
    exact Wq.done hS2 (by simp) (fun _ => by simp) (by omega)
  | false =>
    simp only [stpF, sttF, List.length_map]
    rw [if_neg (of_decide_eq_false hb.symm)]
    refine Wq.sgn [40] hS (by omega) fun u H1 nx1 hS1 => ?_
    refine Wq.putS ih rfl hS1 (by omega) fun u H2 nx2 hS2 => ?_
    refine Wq.sgn [41] hS2 (by omega) fun u H3 nx3 hS3 => ?_
    exact Wq.done hS3 (by simp) (fun _ => by simp) (by omega)
 refine Wq.ite (fun h => L _ (by simp [h])) (fun h => ?_)
 refine Wq.ite (fun h2 => ?_) (fun h2 => L _ (by simp [h, h2]))
 exact L _ (by simp [h2])
theorem und_187 : P.underlying 187 = some (.map 3 9) := by kernel_rfl
theorem put_171a (t : TyS) (ht : t.ok) (ih : ∀ a, a ∈ t.l -> Put 185 [a.v] (tyR a) (tyPT a) (8 * a.z - 2)) : Put 171 [t.v] (tyR t) (tyT t) (8 * t.z - 4) := fun fr bp nx0 H0 l0 b0 H nx hn hS => by
 rw [TyS.ok_iff] at ht
 have hz := t.z_eq
 have hlen := tysZ_len t.l
 have hsum := sumN_tys t.l
 have e0 := tyR_eq t
 have e1 := tyT_eq t
 unfold tyHd at e0
 unfold tyTH at e1
 rw [q171]
 refine Wq.natS hS fun hS => ?_
 simp only [stpF, sttF, List.length_map, nat_eq0]
 refine Wq.ite (fun hk => ?_) (fun h1 => ?_)
 . rw [if_pos hk] at e0 e1
   refine Wq.putS (put_127 _) rfl hS (by omega) fun u H2 nx2 hS2 => ?_
   simp only [stpF, bd_31_t]
   refine Wq.putS (put_132 ⟨5, t.s, 0, 0⟩ (sLt ht.1)) rfl hS2 (by omega) fun u H3 nx3 hS3 => ?_
   refine Wq.done hS3 ?_ (fun _ => by rw [e1]; rfl) (by omega)
   rw [e0]
   show _ = (tysRt t.l && (decide (t.l.length = 0) && tokOk ⟨5, t.s, 0, 0⟩))
   by_cases g : t.l.length = 0
   . rw [List.eq_nil_of_length_eq_zero g]; simp [tysRt]
   . simp [g]
 rw [if_neg h1] at e0 e1
 have L18 : ∀ b : Bool, b = decide (t.k = 3 \/ t.k = 4) -> WqR P pl X0 (.jump (l171_18 (ptr bp) (eptrV t.v) (i64 t.k) b H (nx + 1))) nx0 H0 (Done fr bp nx0 H0 l0 b0 (tyR t) (tyT t) (8 * t.z - 4)) := by
  intro b hb
  refine Wq.jmp (q171_18 ..) (fun _ => rfl) ?_
  cases b with
  | true =>
    have hk34 := of_decide_eq_true hb.symm
    have L20 : ∀ (r : Bool) H2 nx2, r = (decide (t.s = []) && (decide (2 <= t.l.length) && (decide (t.k = 4) || decide (t.l.length = 2)))) -> St fr bp nx0 H0 l0 b0 r [] 0 H2 nx2 -> WqR P pl X0 (.jump (l171_20 (ptr bp) (eptrV t.v) H2 nx2)) nx0 H0 (Done fr bp nx0 H0 l0 b0 (tyR t) (tyT t) (8 * t.z - 4)) := by
     intro r H2 nx2 hr hS2
     have e2 : tyR t = (r && t.l.all tyR) := by
      rw [e0, hr, tysRt_all]
      rcases hk34 with hk | hk
      . rw [hk]
        show (t.l.all tyR && (decide (t.l.length = 2) && decide (t.s = []))) = _
        by_cases g : t.l.length = 2
        . rw [g]; cases t.l.all tyR <;> cases decide (t.s = []) <;> rfl
        . simp [g]
      . rw [hk]
        show (t.l.all tyR && (decide (2 <= t.l.length) && decide (t.s = []))) = _
        cases t.l.all tyR <;> cases decide (t.s = []) <;> simp
     obtain ⟨sg, hsg⟩ : ∃ sg, sg = if t.k = 3 then ([45, 62] : List UInt8) else [42] := ⟨_, rfl⟩
     have e3 : tyT t = tokL (sepF sg tyPT) true t.l := by
      rw [e1, hsg]
      rcases hk34 with hk | hk
      . rw [hk]; simp only [if_true]; rw [tokL_map]; rfl
      . rw [hk]; simp only [if_true]; rw [if_neg (by decide), if_neg (by decide), tokL_map]; rfl
     refine Wq.jmp (q171_20 ..) (fun _ => rfl) ?_
     simp only [stpF, sttF, List.length_map]
     refine Wq.eachS t.l tyR (sepF sg tyPT) (fun p => 8 * p.z - 1) (fun i H nx => .jump (l171_23 (ptr bp) (eptrV t.v) (tysR t.l) (i64 (t.l.length : Int)) (i64 (i : Int)) H nx)) hS2 (by omega) (fun H1 nx1 hS1 => ?_) (fun i a H1 nx1 ok' ts' n' hg hlt hb hS1 ih' => ?_)
     . refine Wq.jmp (q171_23 ..) (fun _ => rfl) ?_
       simp only [stpF, sttF, List.length_map, not_lt_len]
       exact Wq.done hS1 e2.symm (fun _ => by rw [e3]; simp) (by omega)
     . have hx : (t.l.map TyS.v)[i]? = some a.v := by simp [hg]
       have hm := List.mem_of_getElem? hg
       have hz := a.z_pos
       refine Wq.jmp (q171_23 ..) (fun _ => rfl) ?_
       simp only [stpF, sttF, List.length_map, is_lt_len hlt, ix_53 hx]
       refine Wq.varS zero_138 sz_138 rfl (nTyS _) (oTyS _) hS1 fun H2 nx2 hS2 => ?_
       have L : ∀ ts2 n2 H3 nx3, St fr bp nx0 H0 l0 b0 ok' ts2 n2 H3 nx3 -> ts2 = ts' ++ (if decide (i = 0) = true then [] else [sgT sg]) -> n2 <= n' + 1 -> WqR P pl X0 (.jump (l171_30 (ptr bp) (eptrV t.v) (eptrV a.v) (tysR t.l) (i64 (t.l.length : Int)) (i64 (i : Int)) H3 nx3)) nx0 H0 (Done fr bp nx0 H0 l0 b0 (tyR t) (tyT t) (8 * t.z - 4)) := by
        intro ts2 n2 H3 nx3 hS3 e en
        subst e
        refine Wq.jmp (q171_30 ..) (fun _ => rfl) ?_
        simp only [stpF, sttF, List.length_map]
        refine Wq.putS (ih a hm) rfl hS3 (by omega) fun u H4 nx4 hS4 => ?_
        simp only [stpF, wrap_succ (show i < 9223372036854775807 by have := sm_lt ht.2.1; omega)]
        refine ih' _ _ (hS4.mono rfl (fun _ => ?_) (by omega))
        unfold sepF; simp
       refine Wq.ite (fun h => ?_) (fun h => ?_)
       . refine Wq.map2S und_187 und_3 rfl rfl (by kernel_rfl) hS2 fun m H3 nx3 hm3 hS3 => ?_
         have hl : rdLookup P H3 187 (some m) (some (i64 t.k)) false = some (txt sg) := by
          rw [hm3, hsg]
          rcases hk34 with hk | hk
          . rw [hk]; kernel_rfl
          . rw [hk]; kernel_rfl
         simp only [stpF, sttF, List.length_map, hl]
         refine Wq.sgn sg hS3 (by omega) fun u H3 nx3 hS3 => ?_
         exact L _ _ _ _ hS3 (by rw [if_neg (by simp; omega)]) (by omega)
       . exact L _ _ _ _ hS2 (by rw [if_pos (by simp; omega)]; simp) (by omega)
    have F : ∀ c : Bool, c = (decide (t.s = []) && (decide (2 <= t.l.length) && (decide (t.k = 4) || decide (t.l.length = 2)))) -> WqR P pl X0 (callQ (.call 127 [ptr bp, .bool c] false none H (nx + 1)) (fun x H' nx' => .jump (l171_20 (ptr bp) (eptrV t.v) H' nx')) panK) nx0 H0 (Done fr bp nx0 H0 l0 b0 (tyR t) (tyT t) (8 * t.z - 4)) := by
     intro c hc
     refine Wq.putS (put_127 c) rfl hS (by omega) fun u H2 nx2 hS2 => ?_
     exact L20 _ _ _ hc hS2
    simp only [stpF, sttF, List.length_map, txt_dec, nat_ge2, nat_eq2]
    refine Wq.ite (fun g1 => ?_) (fun g1 => F _ (by simp [g1]))
    refine Wq.ite (fun g2 => ?_) (fun g2 => F _ (by simp [g2]))
    refine Wq.ite (fun g3 => F _ (by simp [g1, g2, g3])) (fun g3 => ?_)
    exact F _ (by simp [g1, g2, g3])
  | false =>
    have hk34 := of_decide_eq_false hb.symm
    have h3 : t.k ≠ 3 := fun q => hk34 (.inl q)
    have h4 : t.k ≠ 4 := fun q => hk34 (.inr q)
    rw [if_neg h3, if_neg h4] at e1
    simp only [stpF, sttF, List.length_map, nat_gt1]
    refine Wq.ite (fun hk => ?_) (fun h2 => ?_)
    . rw [if_pos hk] at e0 e1
      rw [List.length_map, tokL_map] at e1
      have e2 : tyR t = (t.l.all tyR && (decide (t.s = [114, 101, 102]) || wordOk 3 t.s)) := by rw [e0, tysRt_all]
      have L40 : ∀ (ts0 : List Tok) (n0 : Nat) H2 nx2, ts0 = (if 1 < t.l.length then [sgT [40]] else []) -> n0 <= 1 -> St fr bp nx0 H0 l0 b0 true ts0 n0 H2 nx2 -> WqR P pl X0 (.jump (l171_40 (ptr bp) (eptrV t.v) H2 nx2)) nx0 H0 (Done fr bp nx0 H0 l0 b0 (tyR t) (tyT t) (8 * t.z - 4)) := by
       intro ts0 n0 H2 nx2 hts hn0 hS2
       refine Wq.jmp (q171_40 ..) (fun _ => rfl) ?_
       simp only [stpF, sttF, List.length_map]
       refine Wq.eachS t.l tyR (sepF [44] tyPT) (fun p => 8 * p.z - 1) (fun i H nx => .jump (l171_43 (ptr bp) (eptrV t.v) (tysR t.l) (i64 (t.l.length : Int)) (i64 (i : Int)) H nx)) hS2 (by omega) (fun H1 nx1 hS1 => ?_) (fun i a H1 nx1 ok' ts' n' hg hlt hb hS1 ih' => ?_)
       . refine Wq.jmp (q171_43 ..) (fun _ => rfl) ?_
         have L58 : ∀ (ts1 : List Tok) (n1 : Nat) H3 nx3, ts1 = ts0 ++ tokL (sepF [44] tyPT) true t.l ++ (if 1 < t.l.length then [sgT [41]] else []) -> n1 <= n0 + sumN (fun p : TyS => 8 * p.z - 1) t.l + 1 -> St fr bp nx0 H0 l0 b0 (true && t.l.all tyR) ts1 n1 H3 nx3 -> WqR P pl X0 (.jump (l171_58 (ptr bp) (eptrV t.v) H3 nx3)) nx0 H0 (Done fr bp nx0 H0 l0 b0 (tyR t) (tyT t) (8 * t.z - 4)) := by
          intro ts1 n1 H3 nx3 hts1 hn1 hS3
          refine Wq.jmp (q171_58 ..) (fun _ => rfl) ?_
          simp only [stpF, sttF, List.length_map]
          refine Wq.putS (put_186 t.s (sLt ht.1)) rfl hS3 (by omega) fun u H4 nx4 hS4 => ?_
          refine Wq.done hS4 (by rw [e2]; simp) (fun _ => ?_) (by omega)
          rw [e1, hts1, hts]
          by_cases g : 1 < t.l.length
          . simp [g]; rfl
          . simp [g]; rfl
         simp only [stpF, sttF, List.length_map, not_lt_len, nat_gt1]
         refine Wq.ite (fun g => ?_) (fun g => ?_)
         . refine Wq.sgn [41] hS1 (by omega) fun u H3 nx3 hS3 => ?_
           exact L58 _ _ _ _ (by rw [if_pos g]) (by omega) hS3
         . exact L58 _ _ _ _ (by rw [if_neg g]; simp) (by omega) hS1
       . have hx : (t.l.map TyS.v)[i]? = some a.v := by simp [hg]
         have hm := List.mem_of_getElem? hg
         have hz := a.z_pos
         refine Wq.jmp (q171_43 ..) (fun _ => rfl) ?_
         simp only [stpF, sttF, List.length_map, is_lt_len hlt, ix_53 hx]
         refine Wq.varS zero_138 sz_138 rfl (nTyS _) (oTyS _) hS1 fun H2 nx2 hS2 => ?_
         have L : ∀ ts2 n2 H3 nx3, St fr bp nx0 H0 l0 b0 ok' ts2 n2 H3 nx3 -> ts2 = ts' ++ (if decide (i = 0) = true then [] else [sgT [44]]) -> n2 <= n' + 1 -> WqR P pl X0 (.jump (l171_50 (ptr bp) (eptrV t.v) (eptrV a.v) (tysR t.l) (i64 (t.l.length : Int)) (i64 (i : Int)) H3 nx3)) nx0 H0 (Done fr bp nx0 H0 l0 b0 (tyR t) (tyT t) (8 * t.z - 4)) := by
          intro ts2 n2 H3 nx3 hS3 e en
          subst e
          refine Wq.jmp (q171_50 ..) (fun _ => rfl) ?_
          simp only [stpF, sttF, List.length_map]
          refine Wq.putS (ih a hm) rfl hS3 (by omega) fun u H4 nx4 hS4 => ?_
          simp only [stpF, wrap_succ (show i < 9223372036854775807 by have := sm_lt ht.2.1; omega)]
          refine ih' _ _ (hS4.mono rfl (fun _ => ?_) (by omega))
          unfold sepF; simp
         refine Wq.ite (fun h => ?_) (fun h => ?_)
         . refine Wq.sgn [44] hS2 (by omega) fun u H3 nx3 hS3 => ?_
           exact L _ _ _ _ hS3 (by rw [if_neg (by simp; omega)]) (by omega)
         . exact L _ _ _ _ hS2 (by rw [if_pos (by simp; omega)]; simp) (by omega)
      refine Wq.ite (fun g => ?_) (fun g => ?_)
      . refine Wq.sgn [40] hS (by omega) fun u H3 nx3 hS3 => ?_
        exact L40 _ _ _ _ (by rw [if_pos g]; simp) (by omega) hS3
      . exact L40 _ _ _ _ (by rw [if_neg g]) (by omega) hS
    . have e2 : tyR t = false := by
       rw [e0, if_neg h2, if_neg h3, if_neg h4]; simp
      refine Wq.bad hS fun H2 hS2 => ?_
      exact Wq.done hS2 e2.symm (fun q => by rw [e2] at q; cases q) (by omega)
 refine Wq.ite (fun g => L18 _ (by simp [g])) (fun g => ?_)
 exact L18 _ (by simp [g])
theorem ty_both (t : TyS) (ht : t.ok) : Put 171 [t.v] (tyR t) (tyT t) (8 * t.z - 4) := by
 refine TyS.ind (p := fun t => t.ok -> Put 171 [t.v] (tyR t) (tyT t) (8 * t.z - 4)) (fun t ih ht => ?_) t ht
 have ht' := (TyS.ok_iff t).1 ht
 exact put_171a t ht fun a ha => put_185 a (ih a ha (ht'.2.2 a ha))
end
end Go.Proofs.YthjhonhhbddhkaaGreatDoor
/- The printer: constructors, datatypes; the tokens of expressions and declarations. -/
namespace Go.Proofs.YthjhonhhbddhkaaGreatDoor
open Go.Ev Go.RowKit
noncomputable section
set_option maxRecDepth 100000
set_option linter.unusedVariables false
set_option linter.unusedSimpArgs false
variable {nx0 : Nat} {H0 : T OB}
variable {fr : Nat -> List Value -> TypeId -> Prop} {bp : Nat} {l0 : List Tok} {b0 : Bool} {ok : Bool} {ts : List Tok} {n nx : Nat} {H : T OB} {R : Value -> T OB -> Nat -> Prop}
def conT (c : Con) : List Tok := ⟨4, c.s, 0, 0⟩ :: tokL (fun _ t => kyT [111, 102] :: tyT t) true c.arg
theorem Con.z_pos (p : Con) : 1 <= p.z := by unfold Con.z; omega
theorem sumN_tys4 (l : List TyS) : sumN (fun p : TyS => 8 * p.z - 3) l <= 8 * tysZ l := by
 induction l with
 | nil => simp [sumN]
 | cons a l ih => rw [sumN, tysZ]; omega
theorem put_135 (c : Con) (hc : c.ok) : Put 135 [c.v] (conR c) (conT c) (8 * c.z - 4) := fun fr bp nx0 H0 l0 b0 H nx hn hS => by
 have hz : c.z = 1 + c.s.length / 8 + tysZ c.arg := rfl
 have hsum := sumN_tys4 c.arg
 obtain ⟨h1, h2, h3⟩ := hc
 rw [q135]
 refine Wq.natS hS fun hS => ?_
 simp only [stpF, sttF, List.length_map, bd_31_t, nat_le1]
 refine Wq.putS (put_132 ⟨4, c.s, 0, 0⟩ (sLt h1)) rfl hS (by omega) fun u H2 nx2 hS2 => ?_
 refine Wq.putS (put_127 _) rfl hS2 (by omega) fun u H3 nx3 hS3 => ?_
 refine Wq.eachS c.arg tyR (fun _ t => kyT [111, 102] :: tyT t) (fun p => 8 * p.z - 3) (fun i H nx => .jump (l135_11 (ptr bp) (tysR c.arg) (i64 (c.arg.length : Int)) (i64 (i : Int)) H nx)) hS3 (by omega) (fun H1 nx1 hS1 => ?_) (fun i a H1 nx1 ok' ts' n' hg hlt hb hS1 ih' => ?_)
 . refine Wq.jmp (q135_11 ..) (fun _ => rfl) ?_
   simp only [stpF, sttF, List.length_map, not_lt_len]
   refine Wq.done hS1 ?_ (fun _ => ?_) (by omega)
   . unfold conR
     rw [tysRt_all]
     show ((true && (true && tokOk ⟨4, c.s, 0, 0⟩) && decide (c.arg.length <= 1)) && c.arg.all tyR) = (tokOk ⟨4, c.s, 0, 0⟩ && (decide (c.arg.length <= 1) && c.arg.all tyR))
     cases tokOk ⟨4, c.s, 0, 0⟩ <;> cases decide (c.arg.length <= 1) <;> cases c.arg.all tyR <;> rfl
   . unfold conT; simp
 . have hx : (c.arg.map TyS.v)[i]? = some a.v := by simp [hg]
   have hm := List.mem_of_getElem? hg
   have hz := a.z_pos
   refine Wq.jmp (q135_11 ..) (fun _ => rfl) ?_
   simp only [stpF, sttF, List.length_map, is_lt_len hlt, ix_53 hx]
   refine Wq.varS zero_138 sz_138 rfl (nTyS _) (oTyS _) hS1 fun H2 nx2 hS2 => ?_
   refine Wq.key [111, 102] hS2 (by omega) fun u H3 nx3 hS3 => ?_
   try simp only [stpF, sttF, List.length_map]
   refine Wq.putS (ty_both a (h3 a hm)) rfl hS3 (by omega) fun u H4 nx4 hS4 => ?_
   simp only [stpF, wrap_succ (show i < 9223372036854775807 by have := sm_lt h2; omega)]
   exact ih' _ _ (hS4.mono rfl (fun _ => by simp) (by omega))
def dataT (x : Data) : List Tok := kyT [100, 97, 116, 97, 116, 121, 112, 101] :: ((if 1 < x.vars.length then [sgT [40]] else []) ++ (tokL (sepF [44] fun s => [(⟨5, s, 0, 0⟩ : Tok)]) true x.vars ++ ((if 1 < x.vars.length then [sgT [41]] else []) ++ ⟨3, x.s, 0, 0⟩ :: tokL (fun b c => sgT (if b = true then [61] else [124]) :: conT c) true x.cons)))
def dataR (x : Data) : Bool := varsRt x.vars && (consRt x.cons && (wordOk 3 x.s && decide (0 < x.cons.length)))
theorem varsRt_all (l : List (List UInt8)) : varsRt l = l.all (wordOk 5) := by
 induction l with
 | nil => rw [varsRt]; rfl
 | cons a l ih => rw [varsRt, ih]; rfl
theorem consRt_all (l : List Con) : consRt l = l.all conR := by
 induction l with
 | nil => rw [consRt]; rfl
 | cons a l ih => rw [consRt, ih]; rfl
theorem sumN_cons (l : List Con) : sumN (fun p : Con => 8 * p.z - 3) l <= 8 * consZ l := by
 induction l with
 | nil => simp [sumN]
 | cons a l ih => rw [sumN, consZ]; omega
theorem sumN_strs (l : List (List UInt8)) : sumN (fun _ => 2) l <= 8 * strsZ l := by
 induction l with
 | nil => simp [sumN]
 | cons a l ih => rw [sumN, strsZ]; omega
theorem und_163 : P.underlying 163 = some (.map 4 9) := by kernel_rfl
theorem und_4 : P.underlying 4 = some .bool := by kernel_rfl
theorem put_134 (x : Data) (hd : x.ok) : Put 134 [x.v] (dataR x) (dataT x) (8 * x.z + 4) := fun fr bp nx0 H0 l0 b0 H nx hn hS => by
 have hz : x.z = strsZ x.vars + x.s.length / 8 + consZ x.cons := rfl
 have hs1 := sumN_strs x.vars
 have hs2 := sumN_cons x.cons
 obtain ⟨⟨h1, h2⟩, h3, h4, h5⟩ := hd
 rw [q134]
 refine Wq.natS hS fun hS => ?_
 refine Wq.key [100, 97, 116, 97, 116, 121, 112, 101] hS (by omega) fun u H1 nx1 hS1 => ?_
 have L28 : ∀ (ts1 : List Tok) (n1 : Nat) H3 nx3, ts1 = kyT [100, 97, 116, 97, 116, 121, 112, 101] :: ((if 1 < x.vars.length then [sgT [40]] else []) ++ (tokL (sepF [44] fun s => [(⟨5, s, 0, 0⟩ : Tok)]) true x.vars ++ (if 1 < x.vars.length then [sgT [41]] else []))) -> n1 <= 3 + sumN (fun _ => 2) x.vars -> St fr bp nx0 H0 l0 b0 (x.vars.all (wordOk 5)) ts1 n1 H3 nx3 -> WqR P pl X0 (.jump (l134_28 (ptr bp) (eptrV x.v) H3 nx3)) nx0 H0 (Done fr bp nx0 H0 l0 b0 (dataR x) (dataT x) (8 * x.z + 4)) := by
  intro ts1 n1 H3 nx3 hts1 hn1 hS3
  refine Wq.jmp (q134_28 ..) (fun _ => rfl) ?_
  simp only [stpF, sttF, List.length_map, bd_31_t, nat_gt0]
  refine Wq.putS (put_132 ⟨3, x.s, 0, 0⟩ (sLt h3)) rfl hS3 (by omega) fun u H4 nx4 hS4 => ?_
  refine Wq.putS (put_127 _) rfl hS4 (by omega) fun u H5 nx5 hS5 => ?_
  refine Wq.eachS x.cons conR (fun b c => sgT (if b = true then [61] else [124]) :: conT c) (fun p => 8 * p.z - 3) (fun i H nx => .jump (l134_35 (ptr bp) (consR x.cons) (i64 (x.cons.length : Int)) (i64 (i : Int)) H nx)) hS5 (by omega) (fun H1 nx1 hS1 => ?_) (fun i a H1 nx1 ok' ts' n' hg hlt hb hS1 ih' => ?_)
  . refine Wq.jmp (q134_35 ..) (fun _ => rfl) ?_
    simp only [stpF, sttF, List.length_map, not_lt_len]
    refine Wq.done hS1 ?_ (fun _ => ?_) (by omega)
    . unfold dataR
      rw [varsRt_all, consRt_all]
      show (((x.vars.all (wordOk 5) && tokOk ⟨3, x.s, 0, 0⟩) && decide (0 < x.cons.length)) && x.cons.all conR) = (x.vars.all (wordOk 5) && (x.cons.all conR && (tokOk ⟨3, x.s, 0, 0⟩ && decide (0 < x.cons.length))))
      cases x.vars.all (wordOk 5) <;> cases tokOk ⟨3, x.s, 0, 0⟩ <;> cases decide (0 < x.cons.length) <;> cases x.cons.all conR <;> rfl
    . rw [hts1]; unfold dataT; simp
  . have hx : (x.cons.map Con.v)[i]? = some a.v := by simp [hg]
    have hm := List.mem_of_getElem? hg
    have hz := a.z_pos
    refine Wq.jmp (q134_35 ..) (fun _ => rfl) ?_
    simp only [stpF, sttF, List.length_map, is_lt_len hlt, ix_50 hx]
    refine Wq.varS zero_55 sz_55 rfl (nCon _) (oCon _) hS1 fun H2 nx2 hS2 => ?_
    refine Wq.map2S und_163 und_4 rfl rfl (by kernel_rfl) hS2 fun m H3 nx3 hm3 hS3 => ?_
    have hl : ∀ b : Bool, rdLookup P H3 163 (some m) (some (.bool b)) false = some (txt (if b = true then [61] else [124])) := by
     intro b
     rw [hm3]
     cases b <;> kernel_rfl
    simp only [stpF, sttF, List.length_map, nat_eq0, hl]
    refine Wq.sgn _ hS3 (by omega) fun u H3 nx3 hS3 => ?_
    try simp only [stpF, sttF, List.length_map]
    refine Wq.putS (put_135 a (h5 a hm)) rfl hS3 (by omega) fun u H4 nx4 hS4 => ?_
    simp only [stpF, wrap_succ (show i < 9223372036854775807 by have := sm_lt h4; omega)]
    exact ih' _ _ (hS4.mono rfl (fun _ => by simp) (by omega))
 have L10 : ∀ (ts1 : List Tok) (n1 : Nat) H3 nx3, ts1 = kyT [100, 97, 116, 97, 116, 121, 112, 101] :: (if 1 < x.vars.length then [sgT [40]] else []) -> n1 <= 2 -> St fr bp nx0 H0 l0 b0 true ts1 n1 H3 nx3 -> WqR P pl X0 (.jump (l134_10 (ptr bp) (eptrV x.v) H3 nx3)) nx0 H0 (Done fr bp nx0 H0 l0 b0 (dataR x) (dataT x) (8 * x.z + 4)) := by
  intro ts1 n1 H3 nx3 hts1 hn1 hS3
  refine Wq.jmp (q134_10 ..) (fun _ => rfl) ?_
  try simp only [stpF, sttF, List.length_map]
  refine Wq.eachS x.vars (wordOk 5) (sepF [44] fun s => [(⟨5, s, 0, 0⟩ : Tok)]) (fun _ => 2) (fun i H nx => .jump (l134_13 (ptr bp) (eptrV x.v) (strsR x.vars) (i64 (x.vars.length : Int)) (i64 (i : Int)) H nx)) hS3 (by omega) (fun H1 nx1 hS1 => ?_) (fun i a H1 nx1 ok' ts' n' hg hlt hb hS1 ih' => ?_)
  . refine Wq.jmp (q134_13 ..) (fun _ => rfl) ?_
    simp only [stpF, sttF, List.length_map, not_lt_len, nat_gt1]
    refine Wq.ite (fun g => ?_) (fun g => ?_)
    . refine Wq.sgn [41] hS1 (by omega) fun u H3 nx3 hS3 => ?_
      exact L28 _ _ _ _ (by rw [hts1]; simp [g]) (by omega) (hS3.mono (by simp) (fun _ => rfl) (Nat.le_refl _))
    . exact L28 _ _ _ _ (by rw [hts1]; simp [g]) (by omega) (hS1.mono (by simp) (fun _ => rfl) (Nat.le_refl _))
  . have hx : (x.vars.map txt)[i]? = some (txt a) := by simp [hg]
    have hm := List.mem_of_getElem? hg
    refine Wq.jmp (q134_13 ..) (fun _ => rfl) ?_
    simp only [stpF, sttF, List.length_map, is_lt_len hlt, ix_49 hx]
    have L : ∀ ts2 n2 H3 nx3, St fr bp nx0 H0 l0 b0 ok' ts2 n2 H3 nx3 -> ts2 = ts' ++ (if decide (i = 0) = true then [] else [sgT [44]]) -> n2 <= n' + 1 -> WqR P pl X0 (.jump (l134_20 (ptr bp) (eptrV x.v) (txt a) (strsR x.vars) (i64 (x.vars.length : Int)) (i64 (i : Int)) H3 nx3)) nx0 H0 (Done fr bp nx0 H0 l0 b0 (dataR x) (dataT x) (8 * x.z + 4)) := by
     intro ts2 n2 H3 nx3 hS3 e en
     subst e
     refine Wq.jmp (q134_20 ..) (fun _ => rfl) ?_
     simp only [stpF, sttF, List.length_map, bd_31_t]
     refine Wq.putS (put_132 ⟨5, a, 0, 0⟩ (sLt (h2 a hm))) rfl hS3 (by omega) fun u H4 nx4 hS4 => ?_
     simp only [stpF, wrap_succ (show i < 9223372036854775807 by have := sm_lt h1; omega)]
     refine ih' _ _ (hS4.mono rfl (fun _ => ?_) (by omega))
     unfold sepF; simp
    refine Wq.ite (fun h => ?_) (fun h => ?_)
    . refine Wq.sgn [44] hS1 (by omega) fun u H3 nx3 hS3 => ?_
      exact L _ _ _ _ hS3 (by rw [if_neg (by simp; omega)]) (by omega)
    . exact L _ _ _ _ hS1 (by rw [if_pos (by simp; omega)]; simp) (by omega)
 simp only [stpF, sttF, List.length_map, nat_gt1]
 refine Wq.ite (fun g => ?_) (fun g => ?_)
 . refine Wq.sgn [40] hS1 (by omega) fun u H3 nx3 hS3 => ?_
   exact L10 _ _ _ _ (by rw [if_pos g]; simp) (by omega) hS3
 . exact L10 _ _ _ _ (by rw [if_neg g]; simp) (by omega) hS1
abbrev EI := Int × (List Tok × List (List Tok))
def partE (x : EI) : List Tok := if isAt x.1 = true then x.2.1 else sgT [40] :: (x.2.1 ++ [sgT [41]])
def rowL (s : List UInt8) (q : List (List Tok)) : List Tok := tokL (sepF s id) true q
def armsT : Bool -> List (List Tok) -> List (List Tok) -> List Tok
 | b, p :: ps, x :: xs => (if b = true then [] else [sgT [124]]) ++ (p ++ sgT [61, 62] :: (x ++ armsT false ps xs))
 | _, _, _ => []
def expTH (k n : Int) (s : List UInt8) (q : List EI) (ps ds : List (List Tok)) : List Tok :=
 if k = 1 then [⟨1, [], n, 0⟩]
 else if k = 2 \/ k = 3 \/ k = 4 then [⟨k, s, 0, 0⟩]
 else if k = 5 then sgT [40] :: (rowL [44] (q.map partE) ++ [sgT [41]])
 else if k = 13 then sgT [40] :: (rowL [59] (q.map partE) ++ [sgT [41]])
 else if k = 10 then (match q with | [x] => kyT [108, 101, 116] :: ((ds.flatMap fun d => d ++ [sgT [59]]) ++ kyT [105, 110] :: ((if x.1 = 13 then rowL [59] x.2.2 else partE x) ++ [kyT [101, 110, 100]])) | _ => [])
 else if k = 14 then (match q with | [a, b] => partE a ++ opT s :: partE b | _ => [])
 else if k = 15 then (match q with | [a] => opT s :: partE a | _ => [])
 else if k = 6 then (q.map partE).flatten
 else if k = 8 then (match q with | [a, b, c] => kyT [105, 102] :: (partE a ++ kyT [116, 104, 101, 110] :: (partE b ++ kyT [101, 108, 115, 101] :: partE c)) | _ => [])
 else if k = 11 then kyT [114, 97, 105, 115, 101] :: rowL [59] (q.map partE)
 else if k = 7 then kyT [102, 110] :: armsT true ps (q.map partE)
 else if k = 9 then (match q with | a :: r => kyT [99, 97, 115, 101] :: (partE a ++ kyT [111, 102] :: armsT true ps (r.map partE)) | _ => [])
 else if k = 12 then (match q with | a :: r => partE a ++ kyT [104, 97, 110, 100, 108, 101] :: armsT true ps (r.map partE) | _ => [])
 else []
mutual
def expI : Exp -> List Tok × List (List Tok)
 | .mk k n s l p d => (expTH k n s (expsI l) (p.map patPT) (decsI d), (expsI l).map partE)
def expsI : List Exp -> List EI
 | [] => []
 | e :: l => (e.k, expI e) :: expsI l
def decT : Dec -> List Tok
 | .mk k p e f x c => if k = 1 then kyT [118, 97, 108] :: (patT p ++ sgT [61] :: (expI e).1) else if k = 2 then fnsT true f else if k = 3 then dataT x else if k = 4 then kyT [101, 120, 99, 101, 112, 116, 105, 111, 110] :: conT c else if k = 5 then (expI e).1 else []
def fnT : Fn -> List Tok
 | .mk s p b => ⟨3, s, 0, 0⟩ :: (p.flatMap patPT ++ sgT [61] :: (expI b).1)
def decsI : List Dec -> List (List Tok)
 | [] => []
 | d :: l => decT d :: decsI l
def fnsT : Bool -> List Fn -> List Tok
 | _, [] => []
 | b, f :: l => kyT (if b = true then [102, 117, 110] else [97, 110, 100]) :: (fnT f ++ fnsT false l)
end
def expT (e : Exp) : List Tok := (expI e).1
def expPT (e : Exp) : List Tok := partE (e.k, expI e)
theorem expsI_eq (l : List Exp) : expsI l = l.map fun e => (e.k, expI e) := by
 induction l with
 | nil => rw [expsI]; rfl
 | cons p l ih => rw [expsI, ih]; rfl
theorem decsI_eq (l : List Dec) : decsI l = l.map decT := by
 induction l with
 | nil => rw [decsI]; rfl
 | cons p l ih => rw [decsI, ih]; rfl
theorem expI_eq (e : Exp) : expI e = (expTH e.k e.n e.s (e.l.map fun e => (e.k, expI e)) (e.p.map patPT) (e.d.map decT), e.l.map expPT) := by
 cases e; rw [expI, expsI_eq, decsI_eq, List.map_map]; rfl
theorem expT_eq (e : Exp) : expT e = expTH e.k e.n e.s (e.l.map fun e => (e.k, expI e)) (e.p.map patPT) (e.d.map decT) := by unfold expT; rw [expI_eq]
theorem expPT_eq (e : Exp) : expPT e = if isAt e.k = true then expT e else sgT [40] :: (expT e ++ [sgT [41]]) := rfl
theorem fnT_eq (f : Fn) : fnT f = ⟨3, f.s, 0, 0⟩ :: (f.p.flatMap patPT ++ sgT [61] :: expT f.b) := by cases f; rw [fnT]; rfl
theorem fnsT_eq (l : List Fn) : ∀ b, fnsT b l = tokL (fun b f => kyT (if b = true then [102, 117, 110] else [97, 110, 100]) :: fnT f) b l := by
 induction l with
 | nil => intro b; rw [fnsT]; rfl
 | cons p l ih => intro b; rw [fnsT, ih, tokL]; rfl
theorem decT_eq (d : Dec) : decT d = if d.k = 1 then kyT [118, 97, 108] :: (patT d.p ++ sgT [61] :: expT d.e) else if d.k = 2 then fnsT true d.f else if d.k = 3 then dataT d.x else if d.k = 4 then kyT [101, 120, 99, 101, 112, 116, 105, 111, 110] :: conT d.c else if d.k = 5 then expT d.e else [] := by cases d; rw [decT]; rfl
theorem rowL_map (s : List UInt8) (l : List Exp) : rowL s (l.map expPT) = tokL (sepF s expPT) true l := by
 unfold rowL; rw [tokL_map]; rfl
theorem rowL_map' (s : List UInt8) (l : List Exp) : rowL s ((l.map fun e => (e.k, expI e)).map partE) = tokL (sepF s expPT) true l := by
 rw [List.map_map]; exact rowL_map s l
end
end Go.Proofs.YthjhonhhbddhkaaGreatDoor
/- The printer: rows, arms, parts of expressions. -/
namespace Go.Proofs.YthjhonhhbddhkaaGreatDoor
open Go.Ev Go.RowKit
noncomputable section
set_option maxRecDepth 100000
set_option linter.unusedVariables false
set_option linter.unusedSimpArgs false
variable {nx0 : Nat} {H0 : T OB}
variable {fr : Nat -> List Value -> TypeId -> Prop} {bp : Nat} {l0 : List Tok} {b0 : Bool} {ok : Bool} {ts : List Tok} {n nx : Nat} {H : T OB} {R : Value -> T OB -> Nat -> Prop}
theorem eqb_bareE (e : Exp) : eqb (bareE e) e = ((decide (e.k = 1) || decide (e.n = 0)) && ((decide (e.k = 2 \/ e.k = 3 \/ e.k = 4 \/ e.k = 14 \/ e.k = 15) || decide (e.s = [])) && ((!decide (e.k = 1 \/ e.k = 2 \/ e.k = 3 \/ e.k = 4) || decide (e.l.length = 0)) && ((decide (e.k = 7 \/ e.k = 9 \/ e.k = 12) || decide (e.p.length = 0)) && (decide (e.k = 10) || decide (e.d.length = 0)))))) := by
 have A : ∀ {α : Type} (c : Prop) [Decidable c] (x y : α), ((if c then x else y) = x) ↔ (c \/ y = x) := by
  intro α c _ x y
  by_cases h : c <;> simp [h]
 have B : ∀ {α : Type} (c : Prop) [Decidable c] (x y : α), ((if c then y else x) = x) ↔ (¬c \/ y = x) := by
  intro α c _ x y
  by_cases h : c <;> simp [h]
 have C : ∀ {α : Type} (l : List α), ([] = l) ↔ l.length = 0 := by
  intro α l
  cases l <;> simp
 obtain ⟨k, n, s, l, p, d⟩ := e
 rw [Bool.eq_iff_iff, eqb_iff]
 show (Exp.mk k (if k = 1 then n else 0) (if k = 2 \/ k = 3 \/ k = 4 \/ k = 14 \/ k = 15 then s else []) (if k = 1 \/ k = 2 \/ k = 3 \/ k = 4 then [] else l) (if k = 7 \/ k = 9 \/ k = 12 then p else []) (if k = 10 then d else []) = Exp.mk k n s l p d) ↔ ((decide (k = 1) || decide (n = 0)) && ((decide (k = 2 \/ k = 3 \/ k = 4 \/ k = 14 \/ k = 15) || decide (s = [])) && ((!decide (k = 1 \/ k = 2 \/ k = 3 \/ k = 4) || decide (l.length = 0)) && ((decide (k = 7 \/ k = 9 \/ k = 12) || decide (p.length = 0)) && (decide (k = 10) || decide (d.length = 0)))))) = true
 rw [Exp.mk.injEq, A, A, B, A, A, C p, C d, C l]
 rw [Bool.and_eq_true, Bool.and_eq_true, Bool.and_eq_true, Bool.and_eq_true, Bool.or_eq_true, Bool.or_eq_true, Bool.or_eq_true, Bool.or_eq_true, Bool.or_eq_true, decide_eq_true_eq, decide_eq_true_eq, decide_eq_true_eq, decide_eq_true_eq, decide_eq_true_eq, decide_eq_true_eq, decide_eq_true_eq, decide_eq_true_eq, decide_eq_true_eq, Bool.not_eq_true', decide_eq_false_iff_not, eq_comm (a := (0 : Int)), eq_comm (a := ([] : List UInt8))]
 exact ⟨fun h => h.2, fun h => ⟨rfl, h⟩⟩
theorem hasOk_m (e : Exp) (m : Nat) (a b c d : Bool) : hasOk e (m : Int) a b c d = (decide (e.l.length = m) && hasOk e (-1) a b c d) := by
 unfold hasOk
 rw [show decide ((m : Int) < 0) = false from by simp, show decide ((-1 : Int) < 0) = true from rfl, nat_eq, Bool.false_or, Bool.true_or, Bool.true_and]
theorem hasOk_0 (e : Exp) (a b c d : Bool) : hasOk e 0 a b c d = (decide (e.l.length = 0) && hasOk e (-1) a b c d) := hasOk_m e 0 a b c d
theorem hasOk_1 (e : Exp) (a b c d : Bool) : hasOk e 1 a b c d = (decide (e.l.length = 1) && hasOk e (-1) a b c d) := hasOk_m e 1 a b c d
theorem hasOk_2 (e : Exp) (a b c d : Bool) : hasOk e 2 a b c d = (decide (e.l.length = 2) && hasOk e (-1) a b c d) := hasOk_m e 2 a b c d
theorem hasOk_3 (e : Exp) (a b c d : Bool) : hasOk e 3 a b c d = (decide (e.l.length = 3) && hasOk e (-1) a b c d) := hasOk_m e 3 a b c d
theorem expR_k (e : Exp) : expR e = (hasOk e (-1) (decide (e.k = 2 \/ e.k = 3 \/ e.k = 4 \/ e.k = 14 \/ e.k = 15)) (decide (e.k = 1)) (decide (e.k = 7 \/ e.k = 9 \/ e.k = 12)) (decide (e.k = 10)) && (expsRt e.l && ((!decide (e.k = 7 \/ e.k = 9 \/ e.k = 12) || patsRt e.p) && ((!decide (e.k = 10) || decsRt e.d) && ((!decide (e.k = 1 \/ e.k = 2 \/ e.k = 3 \/ e.k = 4) || decide (e.l.length = 0)) && expHd e.k e.n e.s e.l.length e.p.length e.d))))) := by
 rw [expR_eq, eqb_bareE]
 unfold hasOk
 rw [show decide ((-1 : Int) < 0) = true from rfl]
 have hp : e.p.length = 0 -> patsRt e.p = true := fun g => by rw [List.eq_nil_of_length_eq_zero g]; rfl
 have hd : e.d.length = 0 -> decsRt e.d = true := fun g => by rw [List.eq_nil_of_length_eq_zero g]; rw [decsRt]
 generalize expHd e.k e.n e.s e.l.length e.p.length e.d = x0
 generalize expsRt e.l = x1
 generalize patsRt e.p = x2 at *
 generalize decsRt e.d = x3 at *
 generalize decide (e.n = 0) = x4
 generalize decide (e.s = []) = x5
 generalize decide (e.l.length = 0) = x6
 generalize (decide (e.k = 1)) = y1
 generalize (decide (e.k = 2 \/ e.k = 3 \/ e.k = 4 \/ e.k = 14 \/ e.k = 15)) = y2
 generalize decide (e.k = 1 \/ e.k = 2 \/ e.k = 3 \/ e.k = 4) = y3
 generalize decide (e.k = 7 \/ e.k = 9 \/ e.k = 12) = y4
 generalize decide (e.k = 10) = y5
 by_cases g1 : e.p.length = 0 <;> by_cases g2 : e.d.length = 0
 . have h2 := hp g1; have h3 := hd g2; subst h2; subst h3
   simp only [g1, g2, decide_true, Bool.or_true, Bool.true_and, Bool.and_true]
   cases x0 <;> cases x1 <;> cases x4 <;> cases x5 <;> cases x6 <;> cases y1 <;> cases y2 <;> cases y3 <;> rfl
 . have h2 := hp g1; subst h2
   simp only [g1, g2, decide_true, decide_false, Bool.or_true, Bool.or_false, Bool.true_and, Bool.and_true]
   cases x0 <;> cases x1 <;> cases x3 <;> cases x4 <;> cases x5 <;> cases x6 <;> cases y1 <;> cases y2 <;> cases y3 <;> cases y5 <;> rfl
 . have h3 := hd g2; subst h3
   simp only [g1, g2, decide_true, decide_false, Bool.or_true, Bool.or_false, Bool.true_and, Bool.and_true]
   cases x0 <;> cases x1 <;> cases x2 <;> cases x4 <;> cases x5 <;> cases x6 <;> cases y1 <;> cases y2 <;> cases y3 <;> cases y4 <;> rfl
 . simp only [g1, g2, decide_false, Bool.or_false]
   cases y4 <;> cases y5 <;> simp only [Bool.false_and, Bool.and_false, Bool.true_and, Bool.not_true, Bool.false_or, Bool.and_true]
   all_goals (cases x0 <;> cases x1 <;> cases x2 <;> cases x3 <;> cases x4 <;> cases x5 <;> cases x6 <;> cases y1 <;> cases y2 <;> cases y3 <;> rfl)
theorem expsRt_all (l : List Exp) : expsRt l = l.all expR := by
 induction l with
 | nil => rw [expsRt]; rfl
 | cons a l ih => rw [expsRt, ih]; rfl
theorem decsRt_all (l : List Dec) : decsRt l = l.all decR := by
 induction l with
 | nil => rw [decsRt]; rfl
 | cons a l ih => rw [decsRt, ih]; rfl
theorem fnsRt_all (l : List Fn) : fnsRt l = l.all fnR := by
 induction l with
 | nil => rw [fnsRt]; rfl
 | cons a l ih => rw [fnsRt, ih]; rfl
theorem Exp.z_pos (p : Exp) : 1 <= p.z := by rw [Exp.z_eq]; omega
theorem sumN_exps (l : List Exp) : sumN (fun p : Exp => 8 * p.z - 1) l <= 8 * expsZ l := by
 induction l with
 | nil => simp [sumN]
 | cons a l ih => rw [sumN, expsZ]; omega
theorem tokL_const {α : Type} (f : α -> List Tok) (l : List α) : ∀ b, tokL (fun _ => f) b l = l.flatMap f := by
 induction l with
 | nil => intro b; rfl
 | cons a l ih => intro b; rw [tokL, ih, List.flatMap_cons]
theorem put_168 (e : Exp) (ih : Put 131 [e.v] (expR e) (expT e) (8 * e.z - 4)) : Put 168 [e.v] (expR e) (expPT e) (8 * e.z - 2) := fun fr bp nx0 H0 l0 b0 H nx hn hS => by
 have hz := e.z_pos
 rw [q168]
 refine Wq.natS hS fun hS => ?_
 simp only [stpF, sttF, List.length_map]
 refine Wq.callS (pu_183 e) hS fun H1 nx1 hS1 => ?_
 rw [expPT_eq]
 simp only [stpF, sttF, List.length_map]
 refine Wq.bK (fun h => ?_) (fun h => ?_)
 . rw [if_pos h]
   refine Wq.putS ih rfl hS1 (by omega) fun u H2 nx2 hS2 => ?_
   exact Wq.done hS2 (by simp) (fun _ => by simp) (by omega)
 . rw [if_neg (by rw [h]; decide)]
   refine Wq.sgn [40] hS1 (by omega) fun u H1 nx1 hS1 => ?_
   refine Wq.putS ih rfl hS1 (by omega) fun u H2 nx2 hS2 => ?_
   refine Wq.sgn [41] hS2 (by omega) fun u H3 nx3 hS3 => ?_
   exact Wq.done hS3 (by simp) (fun _ => by simp) (by omega)
theorem put_165 (l : List Exp) (s : List UInt8) (hl : l.length < big) (ih : ∀ a, a ∈ l -> Put 168 [a.v] (expR a) (expPT a) (8 * a.z - 2)) : Put 165 [expsR l, txt s] (expsRt l) (tokL (sepF s expPT) true l) (8 * expsZ l) := fun fr bp nx0 H0 l0 b0 H nx hn hS => by
 have hsum := sumN_exps l
 rw [q165]
 simp only [stpF, sttF, List.length_map]
 refine Wq.eachS l expR (sepF s expPT) (fun p => 8 * p.z - 1) (fun i H nx => .jump (l165_5 (ptr bp) (txt s) (expsR l) (i64 (l.length : Int)) (i64 (i : Int)) H nx)) hS (by omega) (fun H1 nx1 hS1 => ?_) (fun i a H1 nx1 ok' ts' n' hg hlt hb hS1 ih' => ?_)
 . refine Wq.jmp (q165_5 ..) (fun _ => rfl) ?_
   simp only [stpF, sttF, List.length_map, not_lt_len]
   exact Wq.done hS1 (by rw [expsRt_all]; simp) (fun _ => by simp) (by omega)
 . have hx : (l.map Exp.v)[i]? = some a.v := by simp [hg]
   have hm := List.mem_of_getElem? hg
   have hz := a.z_pos
   refine Wq.jmp (q165_5 ..) (fun _ => rfl) ?_
   simp only [stpF, sttF, List.length_map, is_lt_len hlt, ix_41 hx]
   refine Wq.varS zero_44 sz_44 rfl (nExp _) (oExp _) hS1 fun H2 nx2 hS2 => ?_
   have L : ∀ ts2 n2 H3 nx3, St fr bp nx0 H0 l0 b0 ok' ts2 n2 H3 nx3 -> ts2 = ts' ++ (if decide (i = 0) = true then [] else [sgT s]) -> n2 <= n' + 1 -> WqR P pl X0 (.jump (l165_12 (ptr bp) (txt s) (eptrV a.v) (expsR l) (i64 (l.length : Int)) (i64 (i : Int)) H3 nx3)) nx0 H0 (Done fr bp nx0 H0 l0 b0 (expsRt l) (tokL (sepF s expPT) true l) (8 * expsZ l)) := by
    intro ts2 n2 H3 nx3 hS3 e en
    subst e
    refine Wq.jmp (q165_12 ..) (fun _ => rfl) ?_
    simp only [stpF, sttF, List.length_map]
    refine Wq.putS (ih a hm) rfl hS3 (by omega) fun u H4 nx4 hS4 => ?_
    simp only [stpF, wrap_succ (show i < 9223372036854775807 by have := sm_lt hl; omega)]
    refine ih' _ _ (hS4.mono rfl (fun _ => ?_) (by omega))
    unfold sepF; simp
   refine Wq.ite (fun h => ?_) (fun h => ?_)
   . refine Wq.sgn s hS2 (by omega) fun u H3 nx3 hS3 => ?_
     exact L _ _ _ _ hS3 (by rw [if_neg (by simp; omega)]) (by omega)
   . exact L _ _ _ _ hS2 (by rw [if_pos (by simp; omega)]; simp) (by omega)
def armR (p : List Pat) (l : List Exp) : Bool := decide (p.length = l.length) && decide (0 < l.length)
theorem put_184 (p : List Pat) (l : List Exp) (hp : p.length < big) (hl : l.length < big) (hpo : ∀ a, a ∈ p -> a.ok) (ih : ∀ a, a ∈ l -> Put 168 [a.v] (expR a) (expPT a) (8 * a.z - 2)) : Put 184 [patsR p, expsR l] (armR p l && (patsRt p && expsRt l)) (armsT true (p.map patPT) (l.map expPT)) (8 * patsZ p + 8 * expsZ l) := fun fr bp nx0 H0 l0 b0 H nx hn hS => by
 rw [q184]
 have key : ∀ (d i : Nat), l.length - i = d -> i <= l.length -> i <= p.length -> ∀ (ok' : Bool) (ts' : List Tok) (n' : Nat) H1 nx1, (b0 = false -> ok' = true -> p.length = l.length) -> l0.length + n' + 8 * patsZ (p.drop i) + 8 * expsZ (l.drop i) <= 100000 -> n' + 8 * patsZ (p.drop i) + 8 * expsZ (l.drop i) <= 8 * patsZ p + 8 * expsZ l -> (ok' && (patsRt (p.drop i) && expsRt (l.drop i))) = (armR p l && (patsRt p && expsRt l)) -> (p.length = l.length -> ts' ++ armsT (decide (i = 0)) ((p.drop i).map patPT) ((l.drop i).map expPT) = armsT true (p.map patPT) (l.map expPT)) -> St fr bp nx0 H0 l0 b0 ok' ts' n' H1 nx1 -> WqR P pl X0 (.jump (l184_7 (ptr bp) (patsR p) (expsR l) (i64 (i : Int)) H1 nx1)) nx0 H0 (Done fr bp nx0 H0 l0 b0 (armR p l && (patsRt p && expsRt l)) (armsT true (p.map patPT) (l.map expPT)) (8 * patsZ p + 8 * expsZ l)) := by
  intro d
  induction d with
  | zero =>
    intro i hd hi hip ok' ts' n' H1 nx1 hq hb1 hb2 hok hts hS1
    obtain rfl : i = l.length := by omega
    refine Wq.jmp (q184_7 ..) (fun _ => rfl) ?_
    simp only [stpF, sttF, List.length_map, not_lt_len]
    by_cases g : p.length = l.length
    . have e1 : p.drop l.length = [] := by rw [<- g, List.drop_length]
      rw [e1, List.drop_length] at hok hts
      refine Wq.done hS1 (by rw [<- hok]; simp [patsRt, expsRt]) (fun _ => by rw [<- hts g]; simp [armsT]) (by omega)
    . have e : armR p l = false := by unfold armR; simp [g]
      have hf : (b0 || !ok') = true := by
       cases b0 with
       | true => rfl
       | false => cases ok' with
         | false => rfl
         | true => exact absurd (hq rfl rfl) g
      exact Wq.skip hS1 hf (fun _ _ => by rw [e]; rfl) (by omega)
  | succ d ihd =>
    intro i hd hi hip ok' ts' n' H1 nx1 hq hb1 hb2 hok hts hS1
    have hlt : i < l.length := by omega
    refine Wq.jmp (q184_7 ..) (fun _ => rfl) ?_
    simp only [stpF, sttF, List.length_map, is_lt_len hlt, nat_gt]
    refine Wq.ite (fun hip' => ?_) (fun hip' => ?_)
    . have hgl : l[i]? = some l[i] := List.getElem?_eq_getElem hlt
      have hgp : p[i]? = some p[i] := List.getElem?_eq_getElem hip'
      have hml := List.mem_of_getElem? hgl
      have hmp := List.mem_of_getElem? hgp
      have hx : (l.map Exp.v)[i]? = some l[i].v := by simp [hgl]
      have hy : (p.map Pat.v)[i]? = some p[i].v := by simp [hgp]
      rw [List.drop_eq_getElem_cons hlt, List.drop_eq_getElem_cons hip'] at hb1 hb2 hok hts
      rw [patsZ, expsZ] at hb1 hb2
      have z1 := l[i].z_pos
      have z2 := p[i].z_pos
      have L14 : ∀ (ts2 : List Tok) (n2 : Nat) H3 nx3, ts2 = ts' ++ (if decide (i = 0) = true then [] else [sgT [124]]) -> n2 <= n' + 1 -> St fr bp nx0 H0 l0 b0 ok' ts2 n2 H3 nx3 -> WqR P pl X0 (.jump (l184_14 (ptr bp) (patsR p) (expsR l) (i64 (i : Int)) H3 nx3)) nx0 H0 (Done fr bp nx0 H0 l0 b0 (armR p l && (patsRt p && expsRt l)) (armsT true (p.map patPT) (l.map expPT)) (8 * patsZ p + 8 * expsZ l)) := by
       intro ts2 n2 H3 nx3 e2 en hS3
       refine Wq.jmp (q184_14 ..) (fun _ => rfl) ?_
       simp only [stpF, sttF, List.length_map, ix_41 hx, ix_42 hy]
       refine Wq.putS (put_133' _ (hpo _ hmp)) rfl hS3 (by omega) fun u H4 nx4 hS4 => ?_
       refine Wq.sgn [61, 62] hS4 (by omega) fun u H5 nx5 hS5 => ?_
       try simp only [stpF, sttF, List.length_map, ix_41 hx]
       refine Wq.putS (ih _ hml) rfl hS5 (by omega) fun u H6 nx6 hS6 => ?_
       simp only [stpF, wrap_succ (show i < 9223372036854775807 by have := sm_lt hl; omega)]
       refine ihd (i + 1) (by omega) (by omega) (by omega) _ _ _ H6 nx6 (fun g1 g2 => hq g1 (by
        cases ok' with
        | true => rfl
        | false => simp at g2)) (by omega) (by omega) ?_ (fun g => ?_) hS6
       . rw [<- hok, patsRt, expsRt]
         cases ok' <;> cases patR p[i] <;> cases expR l[i] <;> cases patsRt (List.drop (i + 1) p) <;> cases expsRt (List.drop (i + 1) l) <;> rfl
       . rw [<- hts g, e2, List.map_cons, List.map_cons, armsT, show decide (i + 1 = 0) = false from by simp]
         simp only [List.append_assoc, List.cons_append, List.nil_append]
      refine Wq.ite (fun h => ?_) (fun h => ?_)
      . refine Wq.sgn [124] hS1 (by omega) fun u H3 nx3 hS3 => ?_
        exact L14 _ _ _ _ (by rw [if_neg (by simp; omega)]) (by omega) hS3
      . exact L14 _ _ _ _ (by rw [if_pos (by simp; omega)]; simp) (by omega) hS1
    . have g : p.length ≠ l.length := by omega
      have e : armR p l = false := by unfold armR; simp [g]
      have hf : (b0 || !ok') = true := by
       cases b0 with
       | true => rfl
       | false => cases ok' with
         | false => rfl
         | true => exact absurd (hq rfl rfl) g
      exact Wq.skip hS1 hf (fun _ _ => by rw [e]; rfl) (by omega)
 have L4 : ∀ (c : Bool), c = armR p l -> WqR P pl X0 (callQ (.call 127 [ptr bp, .bool c] false none H nx) (fun x H' nx' => .jump (l184_4 (ptr bp) (patsR p) (expsR l) H' nx')) panK) nx0 H0 (Done fr bp nx0 H0 l0 b0 (armR p l && (patsRt p && expsRt l)) (armsT true (p.map patPT) (l.map expPT)) (8 * patsZ p + 8 * expsZ l)) := by
  intro c hc
  refine Wq.putS (put_127 c) rfl hS (by omega) fun u H2 nx2 hS2 => ?_
  refine Wq.jmp (q184_4 ..) (fun _ => rfl) ?_
  refine key l.length 0 rfl (Nat.zero_le _) (Nat.zero_le _) _ _ _ H2 nx2 (fun _ g => ?_) (by simp only [List.drop_zero]; omega) (by simp only [List.drop_zero]; omega) (by simp only [List.drop_zero]; rw [hc]; simp) (fun _ => by simp) hS2
  rw [hc] at g
  unfold armR at g
  simp at g
  exact g.1
 unfold armR at L4 ⊢
 simp only [stpF, sttF, List.length_map, nat_eq, nat_gt0]
 refine Wq.ite (fun g => ?_) (fun g => L4 _ (by simp [g]))
 exact L4 _ (by simp [g])
end
end Go.Proofs.YthjhonhhbddhkaaGreatDoor
/- The printer: expressions. -/
namespace Go.Proofs.YthjhonhhbddhkaaGreatDoor
open Go.Ev Go.RowKit
noncomputable section
set_option maxRecDepth 100000
set_option linter.unusedVariables false
set_option linter.unusedSimpArgs false
variable {nx0 : Nat} {H0 : T OB}
variable {fr : Nat -> List Value -> TypeId -> Prop} {bp : Nat} {l0 : List Tok} {b0 : Bool} {ok : Bool} {ts : List Tok} {n nx : Nat} {H : T OB} {R : Value -> T OB -> Nat -> Prop}
theorem all_and {α : Type} (l : List α) (p q : α -> Bool) : (l.all fun a => p a && q a) = (l.all p && l.all q) := by
 induction l with
 | nil => rfl
 | cons a l ih => simp only [List.all_cons, ih]; cases p a <;> cases q a <;> cases l.all p <;> cases l.all q <;> rfl
theorem rdSlice_row1 (es : List Value) (H : T OB) (h : 1 <= es.length) : rdSlice P H 41 (some (rowV 6 es)) (some (some (i64 1))) (some none) (some none) = some (rowV 6 (es.drop 1)) := by
 have e1 : elSz P 41 = some 6 := by kernel_rfl
 show optK (elSz P 41) (fun z => bif Nat.beq 6 z then optK (bound (some (some (i64 1))) 0) (fun l => optK (bound (some none) es.length) (fun h => slR es 6 l h) none) none else none) none = _
 rw [e1, optK_some]
 show slR es 6 1 es.length = _
 unfold slR
 rw [Nat.ble_eq_true_of_le h, Nat.ble_eq_true_of_le (Nat.le_refl _), List.take_of_length_le (by rw [List.length_drop]; omega)]
 rfl
theorem len3 {α : Type} {l : List α} (h : l.length = 3) : ∃ x y z, l = [x, y, z] := by
 match l, h with
 | [x, y, z], _ => exact ⟨x, y, z, rfl⟩
theorem sumN_decs (l : List Dec) : sumN (fun d : Dec => 8 * d.z) l = 8 * decsZ l := by
 induction l with
 | nil => rfl
 | cons a l ih => rw [sumN, ih, decsZ]; omega
theorem Dec.z_pos (p : Dec) : 1 <= p.z := by rw [Dec.z_eq]; omega
theorem put_166 (e : Exp) (hk : e.k = 10) (h : e.ok) (hE : ∀ c, c ∈ e.l -> Put 168 [c.v] (expR c) (expPT c) (8 * c.z - 2)) (hE2 : ∀ c, c ∈ e.l -> ∀ a, a ∈ c.l -> Put 168 [a.v] (expR a) (expPT a) (8 * a.z - 2)) (hD : ∀ d, d ∈ e.d -> Put 75 [d.v] (decR d) (decT d) (8 * d.z - 2)) : Put 166 [e.v] (expR e) (expT e) (8 * e.z - 4) := fun fr bp nx0 H0 l0 b0 H nx hn hS => by
 rw [Exp.ok_iff] at h
 obtain ⟨_, _, ⟨hl1, hl2⟩, _, hd1, hd2⟩ := h
 have hz := e.z_eq
 have e0 : expR e = (hasOk e (-1) false false false true && (expsRt e.l && (decsRt e.d && ((e.d.all fun d => decide (d.k = 1) || decide (d.k = 2)) && decide (e.l.length = 1))))) := by
  rw [expR_k, hk]; rfl
 rw [q166]
 refine Wq.natS hS fun hS => ?_
 simp only [stpF, sttF, List.length_map]
 refine Wq.putS (put_164 e 1 false false false true) rfl hS (by omega) fun u H1 nx1 hS1 => ?_
 rw [hasOk_1] at hS1
 simp only [stpF, fp_116_1, hS1.bad]
 refine Wq.bK (fun hb => ?_) (fun hb => ?_)
 . refine Wq.skip hS1 hb (fun _ g => ?_) (by omega)
   rw [e0]
   revert g
   cases decide (e.l.length = 1) <;> cases hasOk e (-1) false false false true <;> simp
 . have hg : b0 = false /\ (decide (e.l.length = 1) && hasOk e (-1) false false false true) = true := by
    revert hb
    cases b0 <;> cases (decide (e.l.length = 1) && hasOk e (-1) false false false true) <;> simp
   obtain ⟨hb0, hg⟩ := hg
   rw [Bool.and_eq_true, decide_eq_true_eq] at hg
   obtain ⟨x, hl⟩ : ∃ x, e.l = [x] := List.length_eq_one_iff.1 hg.1
   have hxm : x ∈ e.l := by rw [hl]; simp
   have zl : expsZ e.l = x.z + 0 := by rw [hl]; rfl
   have hxz := x.z_eq
   have e1 : expT e = kyT [108, 101, 116] :: ((e.d.flatMap fun d => decT d ++ [sgT [59]]) ++ kyT [105, 110] :: ((if x.k = 13 then tokL (sepF [59] expPT) true x.l else expPT x) ++ [kyT [101, 110, 100]])) := by
    rw [expT_eq, hk, hl]
    show kyT [108, 101, 116] :: (((e.d.map decT).flatMap fun d => d ++ [sgT [59]]) ++ kyT [105, 110] :: ((if x.k = 13 then rowL [59] (expI x).2 else expPT x) ++ [kyT [101, 110, 100]])) = _
    rw [expI_eq x, List.flatMap_map]
    show kyT [108, 101, 116] :: ((e.d.flatMap fun d => decT d ++ [sgT [59]]) ++ kyT [105, 110] :: ((if x.k = 13 then rowL [59] (x.l.map expPT) else expPT x) ++ [kyT [101, 110, 100]])) = _
    rw [rowL_map]
   have e2 : expR e = ((e.d.all fun d => (decide (d.k = 1) || decide (d.k = 2)) && decR d) && expR x) := by
    rw [e0, hg.2, hl, all_and, decsRt_all]
    simp only [expsRt]
    simp only [Bool.true_and, Bool.and_true, Bool.and_assoc, Bool.and_comm, Bool.and_left_comm]
    simp
    try simp only [Bool.true_and, Bool.and_true, Bool.and_assoc, Bool.and_comm, Bool.and_left_comm]
   refine Wq.key [108, 101, 116] hS1 (by omega) fun u H2 nx2 hS2 => ?_
   have hsum := sumN_decs e.d
   try simp only [stpF, sttF, List.length_map]
   refine Wq.eachS e.d (fun d => (decide (d.k = 1) || decide (d.k = 2)) && decR d) (fun _ d => decT d ++ [sgT [59]]) (fun d => 8 * d.z) (fun i H nx => .jump (l166_13 (ptr bp) (eptrV e.v) (decsR e.d) (i64 (e.d.length : Int)) (i64 (i : Int)) H nx)) hS2 (by omega) (fun H1 nx1 hS1 => ?_) (fun i a H1 nx1 ok' ts' n' hg hlt hb hS1 ih' => ?_)
   . refine Wq.jmp (q166_13 ..) (fun _ => rfl) ?_
     have hx0 : (e.l.map Exp.v)[0]? = some x.v := by rw [hl]; rfl
     have hx := ix_41 hx0 .i64
     rw [show ((0 : Nat) : Int) = 0 from rfl] at hx
     simp only [stpF, sttF, List.length_map, not_lt_len, hx]
     refine Wq.key [105, 110] hS1 (by omega) fun u H2 nx2 hS2 => ?_
     refine Wq.varS zero_44 sz_44 rfl (nExp _) (oExp _) hS2 fun H3 nx3 hS3 => ?_
     have L38 : ∀ (r : Bool) (ts2 : List Tok) (n2 : Nat) H4 nx4, r = expR e -> ts2 ++ [kyT [101, 110, 100]] = expT e -> n2 + 1 <= 8 * e.z - 4 -> St fr bp nx0 H0 l0 b0 r ts2 n2 H4 nx4 -> WqR P pl X0 (.jump (l166_38 (ptr bp) H4 nx4)) nx0 H0 (Done fr bp nx0 H0 l0 b0 (expR e) (expT e) (8 * e.z - 4)) := by
      intro r ts2 n2 H4 nx4 hr hts hn2 hS4
      refine Wq.jmp (q166_38 ..) (fun _ => rfl) ?_
      refine Wq.key [101, 110, 100] hS4 (by omega) fun u H5 nx5 hS5 => ?_
      exact Wq.done hS5 hr (fun _ => hts) (by omega)
     try simp only [stpF, sttF, List.length_map]
     refine Wq.ite (fun hk13 => ?_) (fun hk13 => ?_)
     . have e3 : expR x = (hasOk x (-1) false false false false && (expsRt x.l && decide (1 < x.l.length))) := by
        rw [expR_k, hk13]; rfl
       have hxo := (Exp.ok_iff x).1 (hl2 x hxm)
       refine Wq.putS (put_164 x (-1) false false false false) rfl hS3 (by omega) fun u H4 nx4 hS4 => ?_
       try simp only [stpF, sttF, List.length_map, nat_gt1]
       try rw [nat_gt1]
       refine Wq.putS (put_127 _) rfl hS4 (by omega) fun u H5 nx5 hS5 => ?_
       try simp only [stpF, sttF, List.length_map]
       refine Wq.putS (put_165 x.l [59] hxo.2.2.1.1 (hE2 x hxm)) rfl hS5 (by omega) fun u H6 nx6 hS6 => ?_
       refine L38 _ _ _ _ _ ?_ ?_ (by omega) hS6
       . rw [e2, e3, hg.2]
         simp only [hg.1, decide_true]
         simp only [Bool.true_and, Bool.and_true, Bool.and_assoc, Bool.and_comm, Bool.and_left_comm]
       . rw [e1, if_pos hk13, tokL_const]; simp
     . refine Wq.putS (hE x hxm) rfl hS3 (by omega) fun u H4 nx4 hS4 => ?_
       refine L38 _ _ _ _ _ ?_ ?_ (by omega) hS4
       . rw [e2, hg.2]
         simp only [hg.1, decide_true]
         simp only [Bool.true_and, Bool.and_true, Bool.and_assoc, Bool.and_comm, Bool.and_left_comm]
       . rw [e1, if_neg hk13, tokL_const]; simp
   . have hx : (e.d.map Dec.v)[i]? = some a.v := by simp [hg]
     have hm := List.mem_of_getElem? hg
     have hz := a.z_pos
     refine Wq.jmp (q166_13 ..) (fun _ => rfl) ?_
     simp only [stpF, sttF, List.length_map, is_lt_len hlt, ix_24 hx]
     refine Wq.varS zero_57 sz_57 rfl (nDec _) (oDec _) hS1 fun H2 nx2 hS2 => ?_
     have F : ∀ c : Bool, c = (decide (a.k = 1) || decide (a.k = 2)) -> WqR P pl X0 (callQ (.call 127 [ptr bp, .bool c] false none H2 nx2) (fun x H' nx' => .jump (l166_18 (ptr bp) (eptrV e.v) (eptrV a.v) (decsR e.d) (i64 (e.d.length : Int)) (i64 (i : Int)) H' nx')) panK) nx0 H0 (Done fr bp nx0 H0 l0 b0 (expR e) (expT e) (8 * e.z - 4)) := by
      intro c hc
      refine Wq.putS (put_127 c) rfl hS2 (by omega) fun u H3 nx3 hS3 => ?_
      refine Wq.jmp (q166_18 ..) (fun _ => rfl) ?_
      simp only [stpF, sttF, List.length_map]
      refine Wq.putS (hD a hm) rfl hS3 (by omega) fun u H4 nx4 hS4 => ?_
      refine Wq.sgn [59] hS4 (by omega) fun u H5 nx5 hS5 => ?_
      simp only [stpF, wrap_succ (show i < 9223372036854775807 by have := sm_lt hd1; omega)]
      exact ih' _ _ (hS5.mono (by rw [hc, Bool.and_assoc]) (fun _ => by simp) (by omega))
     refine Wq.ite (fun g => F _ (by simp [g])) (fun g => ?_)
     exact F _ (by simp [g])
theorem put_170 (e : Exp) (hk : ¬(e.k = 1 \/ e.k = 2 \/ e.k = 3 \/ e.k = 4 \/ e.k = 5 \/ e.k = 13 \/ e.k = 10 \/ e.k = 14 \/ e.k = 15 \/ e.k = 6)) (h : e.ok) (hE : ∀ c, c ∈ e.l -> Put 168 [c.v] (expR c) (expPT c) (8 * c.z - 2)) : Put 170 [e.v] (expR e) (expT e) (8 * e.z - 4) := fun fr bp nx0 H0 l0 b0 H nx hn hS => by
 rw [Exp.ok_iff] at h
 obtain ⟨_, _, ⟨hl1, hl2⟩, ⟨hp1, hp2⟩, hd1, hd2⟩ := h
 have hz := e.z_eq
 rw [q170]
 refine Wq.natS hS fun hS => ?_
 simp only [stpF, sttF, List.length_map]
 refine Wq.ite (fun hk8 => ?_) (fun h8 => ?_)
 . have e0 : expR e = (hasOk e (-1) false false false false && (expsRt e.l && decide (e.l.length = 3))) := by rw [expR_k, hk8]; rfl
   refine Wq.putS (put_164 e 3 false false false false) rfl hS (by omega) fun u H1 nx1 hS1 => ?_
   rw [hasOk_3] at hS1
   simp only [stpF, fp_116_1, hS1.bad]
   refine Wq.bK (fun hb => ?_) (fun hb => ?_)
   . have hg : b0 = false /\ (decide (e.l.length = 3) && hasOk e (-1) false false false false) = true := by
      revert hb
      cases b0 <;> cases (decide (e.l.length = 3) && hasOk e (-1) false false false false) <;> simp
     obtain ⟨hb0, hg⟩ := hg
     rw [Bool.and_eq_true, decide_eq_true_eq] at hg
     obtain ⟨x, y, z, hl⟩ : ∃ x y z, e.l = [x, y, z] := len3 hg.1
     have e1 : expT e = kyT [105, 102] :: (expPT x ++ kyT [116, 104, 101, 110] :: (expPT y ++ kyT [101, 108, 115, 101] :: expPT z)) := by rw [expT_eq, hk8, hl]; rfl
     have zl : expsZ e.l = x.z + (y.z + (z.z + 0)) := by rw [hl]; rfl
     have z1 := x.z_pos
     have z2 := y.z_pos
     have z3 := z.z_pos
     have hx0 : (e.l.map Exp.v)[0]? = some x.v := by rw [hl]; rfl
     have hx := ix_41 hx0 .i64
     rw [show ((0 : Nat) : Int) = 0 from rfl] at hx
     have hy0 : (e.l.map Exp.v)[1]? = some y.v := by rw [hl]; rfl
     have hy := ix_41 hy0 .i64
     rw [show ((1 : Nat) : Int) = 1 from rfl] at hy
     have hw0 : (e.l.map Exp.v)[2]? = some z.v := by rw [hl]; rfl
     have hw := ix_41 hw0 .i64
     rw [show ((2 : Nat) : Int) = 2 from rfl] at hw
     simp only [stpF, sttF, List.length_map, hx, hy, hw]
     refine Wq.key [105, 102] hS1 (by omega) fun u H2 nx2 hS2 => ?_
     refine Wq.putS (hE x (by rw [hl]; simp)) rfl hS2 (by omega) fun u H3 nx3 hS3 => ?_
     refine Wq.key [116, 104, 101, 110] hS3 (by omega) fun u H4 nx4 hS4 => ?_
     refine Wq.putS (hE y (by rw [hl]; simp)) rfl hS4 (by omega) fun u H5 nx5 hS5 => ?_
     refine Wq.key [101, 108, 115, 101] hS5 (by omega) fun u H6 nx6 hS6 => ?_
     refine Wq.putS (hE z (by rw [hl]; simp)) rfl hS6 (by omega) fun u H7 nx7 hS7 => ?_
     refine Wq.done hS7 ?_ (fun _ => by rw [e1]; simp) (by omega)
     rw [e0, hg.2, hl]
     simp [expsRt, Bool.and_assoc]
   . refine Wq.skip hS1 (by rw [Bool.not_eq_false'] at hb; exact hb) (fun _ g => ?_) (by omega)
     rw [e0]
     revert g
     cases decide (e.l.length = 3) <;> cases hasOk e (-1) false false false false <;> simp
 refine Wq.ite (fun hk11 => ?_) (fun h11 => ?_)
 . have e0 : expR e = (hasOk e (-1) false false false false && (expsRt e.l && decide (e.l.length = 1))) := by rw [expR_k, hk11]; rfl
   have e1 : expT e = kyT [114, 97, 105, 115, 101] :: tokL (sepF [59] expPT) true e.l := by
    rw [expT_eq, hk11, <- rowL_map']; rfl
   refine Wq.putS (put_164 e 1 false false false false) rfl hS (by omega) fun u H1 nx1 hS1 => ?_
   rw [hasOk_1] at hS1
   refine Wq.key [114, 97, 105, 115, 101] hS1 (by omega) fun u H2 nx2 hS2 => ?_
   try simp only [stpF, sttF, List.length_map]
   refine Wq.putS (put_165 e.l [59] hl1 hE) rfl hS2 (by omega) fun u H6 nx6 hS6 => ?_
   refine Wq.done hS6 ?_ (fun _ => by rw [e1]; simp) (by omega)
   rw [e0]
   simp only [Bool.true_and, Bool.and_true, Bool.and_assoc, Bool.and_comm, Bool.and_left_comm]
 refine Wq.ite (fun hk7 => ?_) (fun h7 => ?_)
 . have e0 : expR e = (hasOk e (-1) false false true false && (expsRt e.l && (patsRt e.p && (decide (0 < e.l.length) && decide (e.p.length = e.l.length))))) := by rw [expR_k, hk7]; rfl
   have e1 : expT e = kyT [102, 110] :: armsT true (e.p.map patPT) (e.l.map expPT) := by
    rw [expT_eq, hk7]
    show kyT [102, 110] :: armsT true (e.p.map patPT) ((e.l.map fun e => (e.k, expI e)).map partE) = _
    rw [List.map_map]; rfl
   refine Wq.putS (put_164 e (-1) false false true false) rfl hS (by omega) fun u H1 nx1 hS1 => ?_
   refine Wq.key [102, 110] hS1 (by omega) fun u H2 nx2 hS2 => ?_
   try simp only [stpF, sttF, List.length_map]
   refine Wq.putS (put_184 e.p e.l hp1 hl1 hp2 hE) rfl hS2 (by omega) fun u H6 nx6 hS6 => ?_
   refine Wq.done hS6 ?_ (fun _ => by rw [e1]; simp) (by omega)
   rw [e0]
   unfold armR
   simp only [Bool.true_and, Bool.and_true, Bool.and_assoc, Bool.and_comm, Bool.and_left_comm]
 have L46 : ∀ b : Bool, b = decide (e.k = 9 \/ e.k = 12) -> WqR P pl X0 (.jump (l170_46 (ptr bp) (eptrV e.v) b H (nx + 1))) nx0 H0 (Done fr bp nx0 H0 l0 b0 (expR e) (expT e) (8 * e.z - 4)) := by
  intro b hb
  refine Wq.jmp (q170_46 ..) (fun _ => rfl) ?_
  cases b with
  | false =>
    have hk2 := of_decide_eq_false hb.symm
    have e0 : expR e = false := by
     rw [expR_k]
     have : expHd e.k e.n e.s e.l.length e.p.length e.d = false := by
      unfold expHd
      rw [if_neg (by omega), if_neg (by omega), if_neg (by omega), if_neg (by omega), if_neg (by omega), if_neg (by omega), if_neg (by omega), if_neg (by omega), if_neg (by omega), if_neg hk2, if_neg (by omega), if_neg (by omega), if_neg (by omega), if_neg (by omega)]
     rw [this]; simp
    try simp only [stpF, sttF, List.length_map]
    refine Wq.bad hS fun H2 hS2 => ?_
    exact Wq.done hS2 e0.symm (fun q => by rw [e0] at q; cases q) (by omega)
  | true =>
    have hk2 := of_decide_eq_true hb.symm
    have e0 : expR e = (hasOk e (-1) false false true false && (expsRt e.l && (patsRt e.p && (decide (1 < e.l.length) && decide (e.p.length + 1 = e.l.length))))) := by
     rw [expR_k]
     rcases hk2 with hk2 | hk2 <;> (rw [hk2]; rfl)
    simp only [stpF, sttF, List.length_map, nat_gt1]
    refine Wq.putS (put_164 e (-1) false false true false) rfl hS (by omega) fun u H1 nx1 hS1 => ?_
    refine Wq.putS (put_127 _) rfl hS1 (by omega) fun u H2 nx2 hS2 => ?_
    simp only [stpF, fp_116_1, hS2.bad]
    refine Wq.bK (fun hb => ?_) (fun hb => ?_)
    . refine Wq.skip hS2 hb (fun _ g => ?_) (by omega)
      rw [e0]
      revert g
      cases decide (1 < e.l.length) <;> cases hasOk e (-1) false false true false <;> simp
    . have hg : b0 = false /\ (hasOk e (-1) false false true false && decide (1 < e.l.length)) = true := by
       revert hb
       rw [Bool.true_and]
       cases b0 <;> cases (hasOk e (-1) false false true false && decide (1 < e.l.length)) <;> simp
      obtain ⟨hb0, hg⟩ := hg
      rw [Bool.and_eq_true, decide_eq_true_eq] at hg
      obtain ⟨x, r, hl⟩ : ∃ x r, e.l = x :: r := by
       match hl : e.l with
       | [] => rw [hl] at hg; exact absurd hg.2 (by simp)
       | x :: r => exact ⟨x, r, rfl⟩
      have hlr : e.l.length = r.length + 1 := by rw [hl]; rfl
      have zl : expsZ e.l = x.z + expsZ r := by rw [hl]; rfl
      have e1 : expT e = (if e.k = 9 then [kyT [99, 97, 115, 101]] else []) ++ (expPT x ++ kyT (if e.k = 9 then [111, 102] else [104, 97, 110, 100, 108, 101]) :: armsT true (e.p.map patPT) (r.map expPT)) := by
       rw [expT_eq, hl]
       rcases hk2 with hk2 | hk2
       . rw [hk2]
         show kyT [99, 97, 115, 101] :: (expPT x ++ kyT [111, 102] :: armsT true (e.p.map patPT) ((r.map fun e => (e.k, expI e)).map partE)) = _
         rw [List.map_map]; rfl
       . rw [hk2]
         show expPT x ++ kyT [104, 97, 110, 100, 108, 101] :: armsT true (e.p.map patPT) ((r.map fun e => (e.k, expI e)).map partE) = _
         rw [List.map_map]; rfl
      have z1 := x.z_pos
      have hx0 : (e.l.map Exp.v)[0]? = some x.v := by rw [hl]; rfl
      have hx := ix_41 hx0 .i64
      rw [show ((0 : Nat) : Int) = 0 from rfl] at hx
      have L56 : ∀ (ts2 : List Tok) (n2 : Nat) H4 nx4, ts2 = (if e.k = 9 then [kyT [99, 97, 115, 101]] else []) -> n2 <= 1 -> St fr bp nx0 H0 l0 b0 true ts2 n2 H4 nx4 -> WqR P pl X0 (.jump (l170_56 (ptr bp) (eptrV e.v) H4 nx4)) nx0 H0 (Done fr bp nx0 H0 l0 b0 (expR e) (expT e) (8 * e.z - 4)) := by
       intro ts2 n2 H4 nx4 hts hn2 hS4
       refine Wq.jmp (q170_56 ..) (fun _ => rfl) ?_
       simp only [stpF, sttF, List.length_map, hx]
       refine Wq.putS (hE x (by rw [hl]; simp)) rfl hS4 (by omega) fun u H5 nx5 hS5 => ?_
       refine Wq.map2S und_163 und_4 rfl rfl (by kernel_rfl) hS5 fun m H6 nx6 hm6 hS6 => ?_
       have hlk : ∀ b : Bool, rdLookup P H6 163 (some m) (some (.bool b)) false = some (txt (if b = true then [111, 102] else [104, 97, 110, 100, 108, 101])) := by
        intro b
        rw [hm6]
        cases b <;> kernel_rfl
       simp only [stpF, sttF, List.length_map, hlk, decide_eq_true_eq]
       refine Wq.key _ hS6 (by omega) fun u H7 nx7 hS7 => ?_
       rw [rdSlice_row1 _ _ (by simp; omega)]
       have ed : (e.l.map Exp.v).drop 1 = r.map Exp.v := by rw [hl]; rfl
       rw [ed]
       simp only [stpF, sttF, List.length_map]
       refine Wq.putS (put_184 e.p r hp1 (by omega) hp2 fun a ha => hE a (by rw [hl]; simp [ha])) rfl hS7 (by omega) fun u H8 nx8 hS8 => ?_
       refine Wq.done hS8 ?_ (fun _ => by rw [e1, hts]; simp) (by omega)
       rw [e0, hg.1, hl]
       unfold armR
       have g1 : decide (1 < (x :: r).length) = decide (0 < r.length) := by rw [decide_eq_decide]; simp
       have g2 : decide (e.p.length + 1 = (x :: r).length) = decide (e.p.length = r.length) := by rw [decide_eq_decide]; simp
       rw [g1, g2]
       simp only [expsRt]
       simp only [Bool.true_and, Bool.and_true, Bool.and_assoc, Bool.and_comm, Bool.and_left_comm]
      try simp only [stpF, sttF, List.length_map]
      have hrt : (true && hasOk e (-1) false false true false && decide (1 < e.l.length)) = true := by rw [hg.1, Bool.true_and, Bool.true_and]; simp; omega
      rw [hrt] at hS2
      refine Wq.ite (fun g => ?_) (fun g => ?_)
      . refine Wq.key [99, 97, 115, 101] hS2 (by omega) fun u H3 nx3 hS3 => ?_
        exact L56 _ _ _ _ (by rw [if_pos g]; simp) (by omega) hS3
      . exact L56 _ _ _ _ (by rw [if_neg g]; simp) (by omega) hS2
 refine Wq.ite (fun g => L46 _ (by simp [g])) (fun g => ?_)
 exact L46 _ (by simp [g])
end
end Go.Proofs.YthjhonhhbddhkaaGreatDoor
/- The printer: expressions, whole. -/
namespace Go.Proofs.YthjhonhhbddhkaaGreatDoor
open Go.Ev Go.RowKit
noncomputable section
set_option maxRecDepth 100000
set_option linter.unusedVariables false
set_option linter.unusedSimpArgs false
variable {nx0 : Nat} {H0 : T OB}
variable {fr : Nat -> List Value -> TypeId -> Prop} {bp : Nat} {l0 : List Tok} {b0 : Bool} {ok : Bool} {ts : List Tok} {n nx : Nat} {H : T OB} {R : Value -> T OB -> Nat -> Prop}
theorem len2 {α : Type} {l : List α} (h : l.length = 2) : ∃ x y, l = [x, y] := by
 match l, h with
 | [x, y], _ => exact ⟨x, y, rfl⟩
theorem put_131a (e : Exp) (h : e.ok) (hE : ∀ c, c ∈ e.l -> Put 168 [c.v] (expR c) (expPT c) (8 * c.z - 2)) (hE2 : ∀ c, c ∈ e.l -> ∀ a, a ∈ c.l -> Put 168 [a.v] (expR a) (expPT a) (8 * a.z - 2)) (hD : ∀ d, d ∈ e.d -> Put 75 [d.v] (decR d) (decT d) (8 * d.z - 2)) : Put 131 [e.v] (expR e) (expT e) (8 * e.z - 4) := fun fr bp nx0 H0 l0 b0 H nx hn hS => by
 have h' := h
 rw [Exp.ok_iff] at h
 obtain ⟨_, hs, ⟨hl1, hl2⟩, ⟨hp1, hp2⟩, hd1, hd2⟩ := h
 have hz := e.z_eq
 have hsum := sumN_exps e.l
 rw [q131]
 refine Wq.natS hS fun hS => ?_
 simp only [stpF, sttF, List.length_map, bd_31_t, bd_31_n]
 refine Wq.ite (fun hk => ?_) (fun h1 => ?_)
 . have e0 : expR e = (hasOk e (-1) false true false false && (expsRt e.l && (decide (e.l.length = 0) && tokOk ⟨1, [], e.n, 0⟩))) := by
    rw [expR_k, hk]
    have : tokOk ⟨1, [], e.n, 0⟩ = expHd 1 e.n e.s e.l.length e.p.length e.d := by unfold tokOk; simp [expHd]
    rw [this]; rfl
   have hx0 : e.l.length = 0 -> expsRt e.l = true := fun g => by rw [List.eq_nil_of_length_eq_zero g]; rw [expsRt]
   refine Wq.putS (put_164 e 0 false true false false) rfl hS (by omega) fun u H1 nx1 hS1 => ?_
   try simp only [stpF, sttF, List.length_map]
   refine Wq.putS (put_132 ⟨1, [], e.n, 0⟩ (by first | exact sLt hs | simp)) rfl hS1 (by omega) fun u H2 nx2 hS2 => ?_
   refine Wq.done hS2 ?_ (fun _ => by rw [expT_eq, hk]; rfl) (by omega)
   rw [e0, hasOk_0]
   generalize tokOk ⟨1, [], e.n, 0⟩ = y
   by_cases g : e.l.length = 0
   . rw [hx0 g]; simp only [g, decide_true]; simp only [Bool.true_and, Bool.and_true, Bool.and_assoc, Bool.and_comm, Bool.and_left_comm]
   . simp [g]
 refine Wq.ite (fun hk => ?_) (fun h2 => ?_)
 . have e0 : expR e = (hasOk e (-1) true false false false && (expsRt e.l && (decide (e.l.length = 0) && tokOk ⟨2, e.s, 0, 0⟩))) := by
    rw [expR_k, hk]
    have : tokOk ⟨2, e.s, 0, 0⟩ = expHd 2 e.n e.s e.l.length e.p.length e.d := by unfold tokOk; simp [expHd]
    rw [this]; rfl
   have hx0 : e.l.length = 0 -> expsRt e.l = true := fun g => by rw [List.eq_nil_of_length_eq_zero g]; rw [expsRt]
   refine Wq.putS (put_164 e 0 true false false false) rfl hS (by omega) fun u H1 nx1 hS1 => ?_
   try simp only [stpF, sttF, List.length_map]
   refine Wq.putS (put_132 ⟨2, e.s, 0, 0⟩ (by first | exact sLt hs | simp)) rfl hS1 (by omega) fun u H2 nx2 hS2 => ?_
   refine Wq.done hS2 ?_ (fun _ => by rw [expT_eq, hk]; rfl) (by omega)
   rw [e0, hasOk_0]
   generalize tokOk ⟨2, e.s, 0, 0⟩ = y
   by_cases g : e.l.length = 0
   . rw [hx0 g]; simp only [g, decide_true]; simp only [Bool.true_and, Bool.and_true, Bool.and_assoc, Bool.and_comm, Bool.and_left_comm]
   . simp [g]
 refine Wq.ite (fun hk => ?_) (fun h3 => ?_)
 . have e0 : expR e = (hasOk e (-1) true false false false && (expsRt e.l && (decide (e.l.length = 0) && tokOk ⟨3, e.s, 0, 0⟩))) := by
    rw [expR_k, hk]
    have : tokOk ⟨3, e.s, 0, 0⟩ = expHd 3 e.n e.s e.l.length e.p.length e.d := by simp [expHd, wordOk]
    rw [this]; rfl
   have hx0 : e.l.length = 0 -> expsRt e.l = true := fun g => by rw [List.eq_nil_of_length_eq_zero g]; rw [expsRt]
   refine Wq.putS (put_164 e 0 true false false false) rfl hS (by omega) fun u H1 nx1 hS1 => ?_
   try simp only [stpF, sttF, List.length_map]
   refine Wq.putS (put_132 ⟨3, e.s, 0, 0⟩ (by first | exact sLt hs | simp)) rfl hS1 (by omega) fun u H2 nx2 hS2 => ?_
   refine Wq.done hS2 ?_ (fun _ => by rw [expT_eq, hk]; rfl) (by omega)
   rw [e0, hasOk_0]
   generalize tokOk ⟨3, e.s, 0, 0⟩ = y
   by_cases g : e.l.length = 0
   . rw [hx0 g]; simp only [g, decide_true]; simp only [Bool.true_and, Bool.and_true, Bool.and_assoc, Bool.and_comm, Bool.and_left_comm]
   . simp [g]
 refine Wq.ite (fun hk => ?_) (fun h4 => ?_)
 . have e0 : expR e = (hasOk e (-1) true false false false && (expsRt e.l && (decide (e.l.length = 0) && tokOk ⟨4, e.s, 0, 0⟩))) := by
    rw [expR_k, hk]
    have : tokOk ⟨4, e.s, 0, 0⟩ = expHd 4 e.n e.s e.l.length e.p.length e.d := by simp [expHd, wordOk]
    rw [this]; rfl
   have hx0 : e.l.length = 0 -> expsRt e.l = true := fun g => by rw [List.eq_nil_of_length_eq_zero g]; rw [expsRt]
   refine Wq.putS (put_164 e 0 true false false false) rfl hS (by omega) fun u H1 nx1 hS1 => ?_
   try simp only [stpF, sttF, List.length_map]
   refine Wq.putS (put_132 ⟨4, e.s, 0, 0⟩ (by first | exact sLt hs | simp)) rfl hS1 (by omega) fun u H2 nx2 hS2 => ?_
   refine Wq.done hS2 ?_ (fun _ => by rw [expT_eq, hk]; rfl) (by omega)
   rw [e0, hasOk_0]
   generalize tokOk ⟨4, e.s, 0, 0⟩ = y
   by_cases g : e.l.length = 0
   . rw [hx0 g]; simp only [g, decide_true]; simp only [Bool.true_and, Bool.and_true, Bool.and_assoc, Bool.and_comm, Bool.and_left_comm]
   . simp [g]
 have L36 : ∀ b : Bool, b = decide (e.k = 5 \/ e.k = 13) -> WqR P pl X0 (.jump (l131_36 (ptr bp) (eptrV e.v) (i64 e.k) b H (nx + 1))) nx0 H0 (Done fr bp nx0 H0 l0 b0 (expR e) (expT e) (8 * e.z - 4)) := by
  intro b hb
  refine Wq.jmp (q131_36 ..) (fun _ => rfl) ?_
  cases b with
  | true =>
    have hk2 := of_decide_eq_true hb.symm
    obtain ⟨sg, hsg⟩ : ∃ sg, sg = if e.k = 5 then ([44] : List UInt8) else [59] := ⟨_, rfl⟩
    have e0 : expR e = (hasOk e (-1) false false false false && (expsRt e.l && (decide (1 < e.l.length) || (decide (e.l.length = 0) && decide (e.k = 5))))) := by
     rw [expR_k]
     rcases hk2 with hk2 | hk2
     . rw [hk2]
       show (hasOk e (-1) false false false false && (expsRt e.l && !decide (e.l.length = 1))) = _
       have : (!decide (e.l.length = 1)) = (decide (1 < e.l.length) || (decide (e.l.length = 0) && decide ((5 : Int) = 5))) := by
        rcases Nat.lt_trichotomy e.l.length 1 with g | g | g
        . have : e.l.length = 0 := by omega
          rw [this]; rfl
        . rw [g]; rfl
        . have : e.l.length ≠ 1 := by omega
          simp [this, g]
       rw [this]
     . rw [hk2]
       show (hasOk e (-1) false false false false && (expsRt e.l && decide (1 < e.l.length))) = _
       simp
    have e1 : expT e = sgT [40] :: (tokL (sepF sg expPT) true e.l ++ [sgT [41]]) := by
     rw [expT_eq, hsg]
     rcases hk2 with hk2 | hk2
     . rw [hk2]
       show sgT [40] :: (rowL [44] ((e.l.map fun e => (e.k, expI e)).map partE) ++ [sgT [41]]) = _
       rw [rowL_map']; rfl
     . rw [hk2]
       show sgT [40] :: (rowL [59] ((e.l.map fun e => (e.k, expI e)).map partE) ++ [sgT [41]]) = _
       rw [rowL_map']; rfl
    have L40 : ∀ (r : Bool) H2 nx2, r = (hasOk e (-1) false false false false && (decide (1 < e.l.length) || (decide (e.l.length = 0) && decide (e.k = 5)))) -> St fr bp nx0 H0 l0 b0 r [] 0 H2 nx2 -> WqR P pl X0 (.jump (l131_40 (ptr bp) (eptrV e.v) H2 nx2)) nx0 H0 (Done fr bp nx0 H0 l0 b0 (expR e) (expT e) (8 * e.z - 4)) := by
     intro r H2 nx2 hr hS2
     refine Wq.jmp (q131_40 ..) (fun _ => rfl) ?_
     refine Wq.sgn [40] hS2 (by omega) fun u H3 nx3 hS3 => ?_
     try simp only [stpF, sttF, List.length_map]
     refine Wq.map2S und_187 und_3 rfl rfl (by kernel_rfl) hS3 fun m H4 nx4 hm4 hS4 => ?_
     have hl : rdLookup P H4 187 (some m) (some (i64 e.k)) false = some (txt sg) := by
      rw [hm4, hsg]
      rcases hk2 with hk2 | hk2
      . rw [hk2]; kernel_rfl
      . rw [hk2]; kernel_rfl
     simp only [stpF, sttF, List.length_map, hl]
     refine Wq.putS (put_165 e.l sg hl1 hE) rfl hS4 (by omega) fun u H5 nx5 hS5 => ?_
     refine Wq.sgn [41] hS5 (by omega) fun u H6 nx6 hS6 => ?_
     refine Wq.done hS6 ?_ (fun _ => by rw [e1]; simp) (by omega)
     rw [e0, hr]
     simp only [Bool.true_and, Bool.and_true, Bool.and_assoc, Bool.and_comm, Bool.and_left_comm]
    have hAll : ∀ (c : Bool) H2 nx2, c = (decide (1 < e.l.length) || (decide (e.l.length = 0) && decide (e.k = 5))) -> St fr bp nx0 H0 l0 b0 (true && hasOk e (-1) false false false false) ([] ++ []) (0 + 0) H2 nx2 -> WqR P pl X0 (callQ (.call 127 [ptr bp, .bool c] false none H2 nx2) (fun x H' nx' => .jump (l131_40 (ptr bp) (eptrV e.v) H' nx')) panK) nx0 H0 (Done fr bp nx0 H0 l0 b0 (expR e) (expT e) (8 * e.z - 4)) := by
     intro c H2 nx2 hc hS2
     refine Wq.putS (put_127 c) rfl hS2 (by omega) fun u H3 nx3 hS3 => ?_
     exact L40 _ _ _ (by rw [hc]; simp) (hS3.mono rfl (fun _ => by simp) (by omega))
    simp only [stpF, sttF, List.length_map, nat_gt1, nat_eq0]
    refine Wq.putS (put_164 e (-1) false false false false) rfl hS (by omega) fun u H1 nx1 hS1 => ?_
    refine Wq.ite (fun g => hAll _ _ _ (by simp [g]) hS1) (fun g => ?_)
    refine Wq.ite (fun g2 => ?_) (fun g2 => hAll _ _ _ (by simp [g, g2]) hS1)
    exact hAll _ _ _ (by simp [g2]) hS1
  | false =>
    have hk2 := of_decide_eq_false hb.symm
    simp only [stpF, sttF, List.length_map]
    refine Wq.ite (fun hk => ?_) (fun h10 => ?_)
    . refine Wq.putS (put_166 e hk h' hE hE2 hD) rfl hS (by omega) fun u H2 nx2 hS2 => ?_
      exact Wq.done hS2 (by simp) (fun _ => by simp) (by omega)
    refine Wq.ite (fun hk => ?_) (fun h14 => ?_)
    . have e0 : expR e = (hasOk e (-1) true false false false && (expsRt e.l && (decide (e.l.length = 2) && binsL.contains e.s))) := by rw [expR_k, hk]; rfl
      refine Wq.putS (put_164 e 2 true false false false) rfl hS (by omega) fun u H1 nx1 hS1 => ?_
      rw [hasOk_2] at hS1
      try simp only [stpF, sttF, List.length_map]
      refine Wq.callTS (pt_167 e.s) hS1 fun H2 nx2 hS2 => ?_
      try simp only [stpF, sttF, List.length_map]
      refine Wq.putS (put_127 _) rfl hS2 (by omega) fun u H3 nx3 hS3 => ?_
      simp only [stpF, fp_116_1, hS3.bad]
      refine Wq.bK (fun hb => ?_) (fun hb => ?_)
      . have hg : b0 = false /\ ((decide (e.l.length = 2) && hasOk e (-1) true false false false) && binsL.contains e.s) = true := by
         revert hb
         rw [Bool.true_and]
         cases b0 <;> cases ((decide (e.l.length = 2) && hasOk e (-1) true false false false) && binsL.contains e.s) <;> simp
        obtain ⟨hb0, hg⟩ := hg
        rw [Bool.and_eq_true, Bool.and_eq_true, decide_eq_true_eq] at hg
        obtain ⟨x, y, hl⟩ : ∃ x y, e.l = [x, y] := len2 hg.1.1
        have e1 : expT e = expPT x ++ opT e.s :: expPT y := by rw [expT_eq, hk, hl]; rfl
        have zl : expsZ e.l = x.z + (y.z + 0) := by rw [hl]; rfl
        have z1 := x.z_pos
        have z2 := y.z_pos
        have hx0 : (e.l.map Exp.v)[0]? = some x.v := by rw [hl]; rfl
        have hx := ix_41 hx0 .i64
        rw [show ((0 : Nat) : Int) = 0 from rfl] at hx
        have hy0 : (e.l.map Exp.v)[1]? = some y.v := by rw [hl]; rfl
        have hy := ix_41 hy0 .i64
        rw [show ((1 : Nat) : Int) = 1 from rfl] at hy
        obtain ⟨a, r, hsr⟩ : ∃ a r, e.s = a :: r := by
         match hs : e.s with
         | [] => rw [hs] at hg; exact absurd hg.2 (by decide)
         | a :: r => exact ⟨a, r, rfl⟩
        have hop := pu_169 a r
        rw [<- hsr] at hop
        simp only [stpF, sttF, List.length_map, hx, hy]
        refine Wq.putS (hE x (by rw [hl]; simp)) rfl hS3 (by omega) fun u H4 nx4 hS4 => ?_
        refine Wq.callS hop hS4 fun H5 nx5 hS5 => ?_
        refine Wq.tok (opT e.s) hS5 (by omega) fun u H6 nx6 hS6 => ?_
        try simp only [stpF, sttF, List.length_map, hy]
        refine Wq.putS (hE y (by rw [hl]; simp)) rfl hS6 (by omega) fun u H7 nx7 hS7 => ?_
        refine Wq.done hS7 ?_ (fun _ => by rw [e1]; simp) (by omega)
        rw [e0, hg.1.2, hg.2]
        simp only [hg.1.1, decide_true, hl, expsRt]
        simp only [Bool.true_and, Bool.and_true, Bool.and_assoc, Bool.and_comm, Bool.and_left_comm]
      . refine Wq.skip hS3 (by rw [Bool.not_eq_false'] at hb; exact hb) (fun _ g => ?_) (by omega)
        rw [e0]
        revert g
        cases decide (e.l.length = 2) <;> cases hasOk e (-1) true false false false <;> cases binsL.contains e.s <;> simp
    refine Wq.ite (fun hk => ?_) (fun h15 => ?_)
    . have e0 : expR e = (hasOk e (-1) true false false false && (expsRt e.l && (decide (e.l.length = 1) && wordsL.contains e.s))) := by rw [expR_k, hk]; rfl
      refine Wq.putS (put_164 e 1 true false false false) rfl hS (by omega) fun u H1 nx1 hS1 => ?_
      rw [hasOk_1] at hS1
      try simp only [stpF, sttF, List.length_map, sl_188]
      try rw [sl_188, optK_some]
      refine Wq.callTS (pt_153w e.s) hS1 fun H2 nx2 hS2 => ?_
      try simp only [stpF, sttF, List.length_map]
      refine Wq.putS (put_127 _) rfl hS2 (by omega) fun u H3 nx3 hS3 => ?_
      simp only [stpF, fp_116_1, hS3.bad]
      refine Wq.bK (fun hb => ?_) (fun hb => ?_)
      . have hg : b0 = false /\ ((decide (e.l.length = 1) && hasOk e (-1) true false false false) && wordsL.contains e.s) = true := by
         revert hb
         rw [Bool.true_and]
         cases b0 <;> cases ((decide (e.l.length = 1) && hasOk e (-1) true false false false) && wordsL.contains e.s) <;> simp
        obtain ⟨hb0, hg⟩ := hg
        rw [Bool.and_eq_true, Bool.and_eq_true, decide_eq_true_eq] at hg
        obtain ⟨x, hl⟩ : ∃ x, e.l = [x] := List.length_eq_one_iff.1 hg.1.1
        have e1 : expT e = opT e.s :: expPT x := by rw [expT_eq, hk, hl]; rfl
        have zl : expsZ e.l = x.z + 0 := by rw [hl]; rfl
        have z1 := x.z_pos
        have hx0 : (e.l.map Exp.v)[0]? = some x.v := by rw [hl]; rfl
        have hx := ix_41 hx0 .i64
        rw [show ((0 : Nat) : Int) = 0 from rfl] at hx
        obtain ⟨a, r, hsr⟩ : ∃ a r, e.s = a :: r := by
         match hs : e.s with
         | [] => rw [hs] at hg; exact absurd hg.2 (by decide)
         | a :: r => exact ⟨a, r, rfl⟩
        have hop := pu_169 a r
        rw [<- hsr] at hop
        simp only [stpF, sttF, List.length_map, hx]
        refine Wq.callS hop hS3 fun H5 nx5 hS5 => ?_
        refine Wq.tok (opT e.s) hS5 (by omega) fun u H6 nx6 hS6 => ?_
        try simp only [stpF, sttF, List.length_map, hx]
        refine Wq.putS (hE x (by rw [hl]; simp)) rfl hS6 (by omega) fun u H7 nx7 hS7 => ?_
        refine Wq.done hS7 ?_ (fun _ => by rw [e1]; simp) (by omega)
        rw [e0, hg.1.2, hg.2]
        simp only [hg.1.1, decide_true, hl, expsRt]
        simp only [Bool.true_and, Bool.and_true, Bool.and_assoc, Bool.and_comm, Bool.and_left_comm]
      . refine Wq.skip hS3 (by rw [Bool.not_eq_false'] at hb; exact hb) (fun _ g => ?_) (by omega)
        rw [e0]
        revert g
        cases decide (e.l.length = 1) <;> cases hasOk e (-1) true false false false <;> cases wordsL.contains e.s <;> simp
    refine Wq.ite (fun hk => ?_) (fun h6 => ?_)
    . have e0 : expR e = (hasOk e (-1) false false false false && (expsRt e.l && decide (e.l.length = 2))) := by rw [expR_k, hk]; rfl
      have e1 : expT e = tokL (fun _ => expPT) true e.l := by
       rw [expT_eq, hk]
       show ((e.l.map fun e => (e.k, expI e)).map partE).flatten = _
       rw [List.map_map, tokL_const]; rfl
      refine Wq.putS (put_164 e 2 false false false false) rfl hS (by omega) fun u H1 nx1 hS1 => ?_
      rw [hasOk_2] at hS1
      try simp only [stpF, sttF, List.length_map]
      refine Wq.eachS e.l expR (fun _ => expPT) (fun p => 8 * p.z - 1) (fun i H nx => .jump (l131_83 (ptr bp) (expsR e.l) (i64 (e.l.length : Int)) (i64 (i : Int)) H nx)) hS1 (by omega) (fun H1 nx1 hS1 => ?_) (fun i a H1 nx1 ok' ts' n' hg hlt hb hS1 ih' => ?_)
      . refine Wq.jmp (q131_83 ..) (fun _ => rfl) ?_
        simp only [stpF, sttF, List.length_map, not_lt_len]
        refine Wq.done hS1 ?_ (fun _ => by rw [e1]; simp) (by omega)
        rw [e0, expsRt_all]
        simp only [Bool.true_and, Bool.and_true, Bool.and_assoc, Bool.and_comm, Bool.and_left_comm]
      . have hx : (e.l.map Exp.v)[i]? = some a.v := by simp [hg]
        have hm := List.mem_of_getElem? hg
        have hz := a.z_pos
        refine Wq.jmp (q131_83 ..) (fun _ => rfl) ?_
        simp only [stpF, sttF, List.length_map, is_lt_len hlt, ix_41 hx]
        refine Wq.varS zero_44 sz_44 rfl (nExp _) (oExp _) hS1 fun H2 nx2 hS2 => ?_
        refine Wq.putS (hE a hm) rfl hS2 (by omega) fun u H4 nx4 hS4 => ?_
        simp only [stpF, wrap_succ (show i < 9223372036854775807 by have := sm_lt hl1; omega)]
        exact ih' _ _ (hS4.mono rfl (fun _ => by simp) (by omega))
    . refine Wq.putS (put_170 e (by omega) h' hE) rfl hS (by omega) fun u H2 nx2 hS2 => ?_
      exact Wq.done hS2 (by simp) (fun _ => by simp) (by omega)
 refine Wq.ite (fun g => L36 _ (by simp [g])) (fun g => ?_)
 exact L36 _ (by simp [g])
end
end Go.Proofs.YthjhonhhbddhkaaGreatDoor
/- The printer: declarations. -/
namespace Go.Proofs.YthjhonhhbddhkaaGreatDoor
open Go.Ev Go.RowKit
noncomputable section
set_option maxRecDepth 100000
set_option linter.unusedVariables false
set_option linter.unusedSimpArgs false
variable {nx0 : Nat} {H0 : T OB}
variable {fr : Nat -> List Value -> TypeId -> Prop} {bp : Nat} {l0 : List Tok} {b0 : Bool} {ok : Bool} {ts : List Tok} {n nx : Nat} {H : T OB} {R : Value -> T OB -> Nat -> Prop}
def patE (p : Pat) : Bool := decide (p.k = 0) && (decide (p.s = []) && (decide (p.n = 0) && decide (p.l.length = 0)))
def expE (e : Exp) : Bool := decide (e.k = 0) && (decide (e.s = []) && (decide (e.n = 0) && (decide (e.l.length = 0) && (decide (e.p.length = 0) && decide (e.d.length = 0)))))
def dataE (x : Data) : Bool := decide (x.s = []) && (decide (x.vars.length = 0) && decide (x.cons.length = 0))
def conE (c : Con) : Bool := decide (c.s = []) && decide (c.arg.length = 0)
def noneR (d : Dec) (a b c x y : Bool) : Bool := (!a || patE d.p) && ((!b || expE d.e) && ((!c || decide (d.f.length = 0)) && ((!x || dataE d.x) && (!y || conE d.c))))
theorem patE_iff (p : Pat) : patE p = true ↔ pat0 = p := by
 obtain ⟨k, n, s, l⟩ := p
 show (decide (k = 0) && (decide (s = []) && (decide (n = 0) && decide (l.length = 0)))) = true ↔ Pat.mk 0 0 [] [] = Pat.mk k n s l
 rw [Pat.mk.injEq]
 simp only [Bool.and_eq_true, decide_eq_true_eq, List.length_eq_zero_iff]
 exact ⟨fun ⟨a, b, c, d⟩ => ⟨a.symm, c.symm, b.symm, d.symm⟩, fun ⟨a, b, c, d⟩ => ⟨a.symm, c.symm, b.symm, d.symm⟩⟩
theorem expE_iff (p : Exp) : expE p = true ↔ exp0 = p := by
 obtain ⟨k, n, s, l, a, b⟩ := p
 show (decide (k = 0) && (decide (s = []) && (decide (n = 0) && (decide (l.length = 0) && (decide (a.length = 0) && decide (b.length = 0)))))) = true ↔ Exp.mk 0 0 [] [] [] [] = Exp.mk k n s l a b
 rw [Exp.mk.injEq]
 simp only [Bool.and_eq_true, decide_eq_true_eq, List.length_eq_zero_iff]
 exact ⟨fun ⟨a, b, c, d, e, f⟩ => ⟨a.symm, c.symm, b.symm, d.symm, e.symm, f.symm⟩, fun ⟨a, b, c, d, e, f⟩ => ⟨a.symm, c.symm, b.symm, d.symm, e.symm, f.symm⟩⟩
theorem dataE_iff (p : Data) : dataE p = true ↔ data0 = p := by
 obtain ⟨k, n, s⟩ := p
 show (decide (n = []) && (decide (k.length = 0) && decide (s.length = 0))) = true ↔ Data.mk [] [] [] = Data.mk k n s
 rw [Data.mk.injEq]
 simp only [Bool.and_eq_true, decide_eq_true_eq, List.length_eq_zero_iff]
 exact ⟨fun ⟨a, b, c⟩ => ⟨b.symm, a.symm, c.symm⟩, fun ⟨a, b, c⟩ => ⟨b.symm, a.symm, c.symm⟩⟩
theorem conE_iff (p : Con) : conE p = true ↔ con0 = p := by
 obtain ⟨k, n⟩ := p
 show (decide (k = []) && decide (n.length = 0)) = true ↔ Con.mk [] [] = Con.mk k n
 rw [Con.mk.injEq]
 simp only [Bool.and_eq_true, decide_eq_true_eq, List.length_eq_zero_iff]
 exact ⟨fun ⟨a, b⟩ => ⟨a.symm, b.symm⟩, fun ⟨a, b⟩ => ⟨a.symm, b.symm⟩⟩
theorem eqb_bareD (d : Dec) : eqb (bareD d) d = noneR d (!decide (d.k = 1)) (!decide (d.k = 1 \/ d.k = 5)) (!decide (d.k = 2)) (!decide (d.k = 3)) (!decide (d.k = 4)) := by
 have A : ∀ {α : Type} (c : Prop) [Decidable c] (x y : α), ((if c then x else y) = x) ↔ (c \/ y = x) := by
  intro α c _ x y
  by_cases h : c <;> simp [h]
 have C : ∀ {α : Type} (l : List α), ([] = l) ↔ l.length = 0 := by
  intro α l
  cases l <;> simp
 obtain ⟨k, p, e, f, x, c⟩ := d
 rw [Bool.eq_iff_iff, eqb_iff]
 show (Dec.mk k (if k = 1 then p else pat0) (if k = 1 \/ k = 5 then e else exp0) (if k = 2 then f else []) (if k = 3 then x else data0) (if k = 4 then c else con0) = Dec.mk k p e f x c) ↔ ((!(!decide (k = 1)) || patE p) && ((!(!decide (k = 1 \/ k = 5)) || expE e) && ((!(!decide (k = 2)) || decide (f.length = 0)) && ((!(!decide (k = 3)) || dataE x) && (!(!decide (k = 4)) || conE c))))) = true
 rw [Dec.mk.injEq, A, A, A, A, A, C f, <- patE_iff, <- expE_iff, <- dataE_iff, <- conE_iff]
 simp only [Bool.not_not, Bool.and_eq_true, Bool.or_eq_true, decide_eq_true_eq, true_and]
theorem EB_of {H : T OB} {b : Nat} {e : Exp} (h : IsB H b [i64 e.k, i64 e.n, txt e.s, expsR e.l, patsR e.p, decsR e.d] 44) : rdLoad P H 3 (some (.pointer (some ⟨b, 0, none⟩))) = some (i64 e.k) /\ rdLoad P H 2 (some (.pointer (some ⟨b, 1, none⟩))) = some (i64 e.n) /\ rdLoad P H 9 (some (.pointer (some ⟨b, 2, none⟩))) = some (txt e.s) /\ rdLoad P H 41 (some (.pointer (some ⟨b, 3, none⟩))) = some (expsR e.l) /\ rdLoad P H 42 (some (.pointer (some ⟨b, 4, none⟩))) = some (patsR e.p) /\ rdLoad P H 24 (some (.pointer (some ⟨b, 5, none⟩))) = some (decsR e.d) :=
 ⟨rdLoad_cell h agg_3 rfl, rdLoad_cell h agg_2 rfl, rdLoad_cell h agg_9 rfl, rdLoad_cell h agg_41 rfl, rdLoad_cell h agg_42 rfl, rdLoad_cell h agg_24 rfl⟩
theorem wrap2 {a b : Nat} (h1 : a < big) (h2 : b < big) : IntKind.i64.wrap ((a : Int) + (b : Int)) = ((a + b : Nat) : Int) := by
 have := sm_lt h1
 have := sm_lt h2
 unfold big at h1 h2
 rw [wrap_id (by omega)]; omega
theorem gt0 (a : Nat) : decide (0 < (a : Int)) = !decide (a = 0) := by
 rw [nat_gt0]
 cases a <;> simp
theorem gt0_2 (a b : Nat) : (!decide (a + b = 0)) = !(decide (a = 0) && decide (b = 0)) := by
 cases a <;> cases b <;> simp
theorem gt0_3 (a b c : Nat) : (!decide (a + b + c = 0)) = !(decide (a = 0) && (decide (b = 0) && decide (c = 0))) := by
 cases a <;> cases b <;> cases c <;> simp
theorem pu_128 (d : Dec) (h : d.ok) (a b c x y : Bool) : P0 128 [d.v, .bool a, .bool b, .bool c, .bool x, .bool y] (.bool (noneR d a b c x y)) := Pure.of rfl fun H nx => by
 rw [Dec.ok_iff] at h
 obtain ⟨hp, he, ⟨hf, _⟩, hx, hc⟩ := h
 have he' := (Exp.ok_iff d.e).1 he
 have hl1 := he'.2.2.1.1
 have hl2 := he'.2.2.2.1.1
 have hl3 := he'.2.2.2.2.1
 have hx1 := hx.1.1
 have hx2 := hx.2.2.1
 rw [q128]
 refine Wq.natF' (.refl _ _) fun hA => ?_
 simp only [stpF, sttF, List.length_map]
 rw [Pat.v_eq, Exp.v_eq]
 refine Wq.alloc zero_47 hA fun H1 hb1 k1 hA1 => ?_
 refine Wq.alloc zero_44 hA1 fun H2 hb2 k2 hA2 => ?_
 have hb1' := k2 _ _ _ (by omega) hb1
 refine Wq.store hb1' sz_47 (by simp) rfl rfl hA2 (by omega) fun H3 hb3 k3 hA3 => ?_
 have hb2' := k3 _ _ _ (by omega) hb2
 refine Wq.store hb2' sz_44 (by simp) rfl rfl hA3 (by omega) fun H4 hb4 k4 hA4 => ?_
 have hp4 : IsB H4 (nx + 1) d.p.cs 47 := by
  rw [Pat.cs_eq]
  exact k4 _ _ _ (by omega) hb3
 have hPB := PB_of (p := d.p) hp4
 have hEB := EB_of (e := d.e) hb4
 have L8 : ∀ r : Bool, r = !((!a || patE d.p) && (!b || expE d.e)) -> Wq P pl X0 (.jump (l128_8 c x y (eptrV d.v) r H4 (nx + 1 + 1 + 1))) nx H (.bool (noneR d a b c x y)) := by
  intro r hr
  refine Wq.jmp (q128_8 ..) (fun _ => rfl) ?_
  cases r with
  | true =>
    refine Wq.retE ?_ hA4
    unfold noneR
    revert hr
    generalize (!a || patE d.p) = u1
    generalize (!b || expE d.e) = u2
    cases u1 <;> cases u2 <;> simp
  | false =>
    have e0 : noneR d a b c x y = ((!c || decide (d.f.length = 0)) && ((!x || dataE d.x) && (!y || conE d.c))) := by
     unfold noneR
     revert hr
     generalize (!a || patE d.p) = u1
     generalize (!b || expE d.e) = u2
     cases u1 <;> cases u2 <;> simp
    rw [e0]
    unfold dataE conE
    generalize hs1 : decide (d.x.s = []) = s1
    generalize hs2 : decide (d.x.vars.length = 0) = s2
    generalize hs3 : decide (d.x.cons.length = 0) = s3
    generalize hs4 : decide (d.c.s = []) = s4
    generalize hs5 : decide (d.c.arg.length = 0) = s5
    generalize hs6 : decide (d.f.length = 0) = s6
    simp only [stpF, sttF, List.length_map, txt_dec, wrap2 hx1 hx2, gt0, gt0_2, hs1, hs2, hs3, hs4, hs5, hs6]
    cases c <;> cases x <;> cases y <;> cases s6
    all_goals try (simp only [stpF]; exact Wq.retE rfl hA4)
    all_goals cases s1
    all_goals try (simp only [stpF]; exact Wq.retE rfl hA4)
    all_goals cases s2 <;> cases s3
    all_goals try (simp only [stpF, Bool.and_false, Bool.and_true]; exact Wq.retE rfl hA4)
    all_goals cases s4
    all_goals try (simp only [stpF, Bool.and_false, Bool.and_true]; exact Wq.retE rfl hA4)
    all_goals cases s5 <;> (simp only [stpF, Bool.and_false, Bool.and_true]; exact Wq.retE rfl hA4)
 have hw : IntKind.i64.wrap (((d.e.l.length + d.e.p.length : Nat) : Int) + (d.e.d.length : Int)) = ((d.e.l.length + d.e.p.length + d.e.d.length : Nat) : Int) := by
  unfold big at hl1 hl2 hl3
  rw [wrap_id (by omega)]; omega
 unfold patE expE at L8
 simp only [stpF, sttF, List.length_map, fp_47_0, fp_47_1, fp_47_2, fp_47_3, fp_44_0, fp_44_1, fp_44_2, fp_44_3, fp_44_4, fp_44_5, hPB.1, hPB.2.1, hPB.2.2.1, hPB.2.2.2.1, hEB.1, hEB.2.1, hEB.2.2.1, hEB.2.2.2.1, hEB.2.2.2.2.1, hEB.2.2.2.2.2, txt_dec, wrap2 hl1 hl2, hw, gt0, gt0_3]
 cases a with
 | false =>
   cases b with
   | false => simp only [stpF]; exact L8 _ rfl
   | true =>
     simp only [stpF]
     refine Wq.nite (fun g1 => L8 _ (by simp [g1])) (fun g1 => ?_)
     refine Wq.nite (fun g2 => L8 _ (by simp [g2])) (fun g2 => ?_)
     refine Wq.nite (fun g3 => L8 _ (by simp [g3])) (fun g3 => ?_)
     refine L8 _ ?_
     simp only [g1, g2, g3, decide_true, Bool.true_and, Bool.not_true, Bool.false_or, Bool.not_false, Bool.true_or]
 | true =>
   simp only [stpF]
   refine Wq.nite (fun g1 => L8 _ (by simp [g1])) (fun g1 => ?_)
   refine Wq.nite (fun g2 => L8 _ (by simp [g2])) (fun g2 => ?_)
   refine Wq.nite (fun g3 => L8 _ (by simp [g3])) (fun g3 => ?_)
   refine Wq.nite (fun g4 => L8 _ (by simp [g4])) (fun g4 => ?_)
   cases b with
   | false =>
     simp only [stpF]; refine L8 _ ?_
     simp only [g1, g2, g3, g4, decide_true, Bool.true_and, Bool.not_true, Bool.false_or, Bool.not_false, Bool.true_or]
   | true =>
     simp only [stpF]
     refine Wq.nite (fun g5 => L8 _ (by simp [g5])) (fun g5 => ?_)
     refine Wq.nite (fun g6 => L8 _ (by simp [g6])) (fun g6 => ?_)
     refine Wq.nite (fun g7 => L8 _ (by simp [g7])) (fun g7 => ?_)
     refine L8 _ ?_
     simp only [g1, g2, g3, g4, g5, g6, g7, decide_true, Bool.true_and, Bool.not_true, Bool.false_or, Bool.not_false, Bool.true_or]
end
end Go.Proofs.YthjhonhhbddhkaaGreatDoor
/- The printer: declarations, whole; which are right. -/
namespace Go.Proofs.YthjhonhhbddhkaaGreatDoor
open Go.Ev Go.RowKit
noncomputable section
set_option maxRecDepth 100000
set_option linter.unusedVariables false
set_option linter.unusedSimpArgs false
variable {nx0 : Nat} {H0 : T OB}
variable {fr : Nat -> List Value -> TypeId -> Prop} {bp : Nat} {l0 : List Tok} {b0 : Bool} {ok : Bool} {ts : List Tok} {n nx : Nat} {H : T OB} {R : Value -> T OB -> Nat -> Prop}
theorem sumN_fns (l : List Fn) : sumN (fun p : Fn => 8 * p.z) l = 8 * fnsZ l := by
 induction l with
 | nil => rfl
 | cons a l ih => rw [sumN, ih, fnsZ]; omega
theorem Fn.z_pos (p : Fn) : 1 <= p.z := by rw [Fn.z_eq]; omega
theorem put_75a (d : Dec) (h : d.ok) (hE : Put 131 [d.e.v] (expR d.e) (expT d.e) (8 * d.e.z - 4)) (hF : ∀ f, f ∈ d.f -> Put 131 [f.b.v] (expR f.b) (expT f.b) (8 * f.b.z - 4)) : Put 75 [d.v] (decR d) (decT d) (8 * d.z - 2) := fun fr bp nx0 H0 l0 b0 H nx hn hS => by
 have h' := h
 rw [Dec.ok_iff] at h
 obtain ⟨hp, he, ⟨hf1, hf2⟩, hx, hc⟩ := h
 have hz := d.z_eq
 have z1 := d.p.z_pos
 have z2 := d.e.z_pos
 have z3 := d.c.z_pos
 have e1 := decT_eq d
 have e0 := decR_eq d
 rw [eqb_bareD] at e0
 rw [q75]
 refine Wq.natS hS fun hS => ?_
 simp only [stpF, sttF, List.length_map]
 refine Wq.ite (fun hk => ?_) (fun h1 => ?_)
 . have e2 : decR d = (noneR d false false true true true && (patR d.p && expR d.e)) := by rw [e0, hk]; rfl
   refine Wq.callS (pu_128 d h' false false true true true) hS fun H1 nx1 hS1 => ?_
   try simp only [stpF, sttF, List.length_map]
   refine Wq.putS (put_127 _) rfl hS1 (by omega) fun u H2 nx2 hS2 => ?_
   refine Wq.key [118, 97, 108] hS2 (by omega) fun u H3 nx3 hS3 => ?_
   try simp only [stpF, sttF, List.length_map]
   refine Wq.putS (put_130 d.p hp) rfl hS3 (by omega) fun u H4 nx4 hS4 => ?_
   refine Wq.sgn [61] hS4 (by omega) fun u H5 nx5 hS5 => ?_
   try simp only [stpF, sttF, List.length_map]
   refine Wq.putS hE rfl hS5 (by omega) fun u H6 nx6 hS6 => ?_
   refine Wq.done hS6 (by rw [e2]; simp only [Bool.true_and, Bool.and_true, Bool.and_assoc, Bool.and_comm, Bool.and_left_comm]) (fun _ => by rw [e1, if_pos hk]; simp) (by omega)
 rw [if_neg h1] at e1
 refine Wq.ite (fun hk => ?_) (fun h2 => ?_)
 . have e2 : decR d = (fnsRt d.f && (decide (0 < d.f.length) && noneR d true true false true true)) := by rw [e0, hk]; rfl
   rw [if_pos hk] at e1
   have hsum := sumN_fns d.f
   have L24 : ∀ (c : Bool) H1 nx1, c = (noneR d true true false true true && decide (0 < d.f.length)) -> St fr bp nx0 H0 l0 b0 true [] 0 H1 nx1 -> WqR P pl X0 (callQ (.call 127 [ptr bp, .bool c] false none H1 nx1) (fun x H' nx' => .jump (l75_24 (ptr bp) (eptrV d.v) H' nx')) panK) nx0 H0 (Done fr bp nx0 H0 l0 b0 (decR d) (decT d) (8 * d.z - 2)) := by
    intro c H1 nx1 hc hS1
    refine Wq.putS (put_127 c) rfl hS1 (by omega) fun u H2 nx2 hS2 => ?_
    refine Wq.jmp (q75_24 ..) (fun _ => rfl) ?_
    simp only [stpF, sttF, List.length_map]
    refine Wq.eachS d.f fnR (fun b f => kyT (if b = true then [102, 117, 110] else [97, 110, 100]) :: fnT f) (fun f => 8 * f.z) (fun i H nx => .jump (l75_27 (ptr bp) (fnsR d.f) (i64 (d.f.length : Int)) (i64 (i : Int)) H nx)) hS2 (by omega) (fun H1 nx1 hS1 => ?_) (fun i a H1 nx1 ok' ts' n' hg hlt hb hS1 ih' => ?_)
    . refine Wq.jmp (q75_27 ..) (fun _ => rfl) ?_
      simp only [stpF, sttF, List.length_map, not_lt_len]
      refine Wq.done hS1 ?_ (fun _ => by rw [e1, fnsT_eq]; simp) (by omega)
      rw [e2, hc, fnsRt_all]
      simp only [Bool.true_and, Bool.and_true, Bool.and_assoc, Bool.and_comm, Bool.and_left_comm]
    . have hx : (d.f.map Fn.v)[i]? = some a.v := by simp [hg]
      have hm := List.mem_of_getElem? hg
      have hao := (Fn.ok_iff a).1 (hf2 a hm)
      have hz := a.z_eq
      have zb := a.b.z_pos
      refine Wq.jmp (q75_27 ..) (fun _ => rfl) ?_
      simp only [stpF, sttF, List.length_map, is_lt_len hlt, ix_48 hx]
      refine Wq.varS zero_65 sz_65 rfl (nFn _) (oFn _) hS1 fun H2 nx2 hS2 => ?_
      refine Wq.map2S und_163 und_4 rfl rfl (by kernel_rfl) hS2 fun m H3 nx3 hm3 hS3 => ?_
      have hl : ∀ b : Bool, rdLookup P H3 163 (some m) (some (.bool b)) false = some (txt (if b = true then [102, 117, 110] else [97, 110, 100])) := by
       intro b
       rw [hm3]
       cases b <;> kernel_rfl
      simp only [stpF, sttF, List.length_map, nat_eq0, hl, bd_31_t, nat_gt0]
      refine Wq.key _ hS3 (by omega) fun u H4 nx4 hS4 => ?_
      try simp only [stpF, sttF, List.length_map, bd_31_t, nat_gt0]
      refine Wq.putS (put_132 ⟨3, a.s, 0, 0⟩ (sLt hao.1)) rfl hS4 (by omega) fun u H5 nx5 hS5 => ?_
      try simp only [stpF, sttF, List.length_map, nat_gt0]
      refine Wq.putS (put_127 _) rfl hS5 (by omega) fun u H6 nx6 hS6 => ?_
      try simp only [stpF, sttF, List.length_map]
      have hsp := sumN_pats' a.p
      refine Wq.eachS a.p patR (fun _ => patPT) (fun p => 8 * p.z - 2) (fun k H nx => .jump (l75_39 (ptr bp) (eptrV a.v) (fnsR d.f) (i64 (d.f.length : Int)) (i64 (i : Int)) (patsR a.p) (i64 (a.p.length : Int)) (i64 (k : Int)) H nx)) hS6 (by omega) (fun H7 nx7 hS7 => ?_) (fun k q H7 nx7 ok7 ts7 n7 hg7 hlt7 hb7 hS7 ih7 => ?_)
      . refine Wq.jmp (q75_39 ..) (fun _ => rfl) ?_
        simp only [stpF, sttF, List.length_map, not_lt_len]
        refine Wq.sgn [61] hS7 (by omega) fun u H8 nx8 hS8 => ?_
        try simp only [stpF, sttF, List.length_map]
        refine Wq.putS (hF a hm) rfl hS8 (by omega) fun u H9 nx9 hS9 => ?_
        simp only [stpF, wrap_succ (show i < 9223372036854775807 by have := sm_lt hf1; omega)]
        refine ih' _ _ (hS9.mono ?_ (fun _ => ?_) (by omega))
        . rw [fnR_eq, patsRt_all]
          show (((ok' && tokOk ⟨3, a.s, 0, 0⟩) && decide (0 < a.p.length)) && a.p.all patR && expR a.b) = (ok' && (tokOk ⟨3, a.s, 0, 0⟩ && (decide (0 < a.p.length) && (a.p.all patR && expR a.b))))
          simp only [Bool.and_assoc]
        . rw [tokL_const, fnT_eq]; simp
      . have hx7 : (a.p.map Pat.v)[k]? = some q.v := by simp [hg7]
        have hm7 := List.mem_of_getElem? hg7
        refine Wq.jmp (q75_39 ..) (fun _ => rfl) ?_
        simp only [stpF, sttF, List.length_map, is_lt_len hlt7, ix_42 hx7]
        refine Wq.varS zero_47 sz_47 rfl (nPat _) (oPat _) hS7 fun H8 nx8 hS8 => ?_
        refine Wq.putS (put_133' q (hao.2.1.2 q hm7)) rfl hS8 (by omega) fun u H9 nx9 hS9 => ?_
        simp only [stpF, wrap_succ (show k < 9223372036854775807 by have := sm_lt hao.2.1.1; omega)]
        exact ih7 _ _ hS9
   refine Wq.callS (pu_128 d h' true true false true true) hS fun H1 nx1 hS1 => ?_
   simp only [stpF, sttF, List.length_map, nat_gt0]
   refine Wq.bK (fun g => ?_) (fun g => L24 _ _ _ (by rw [g]; rfl) hS1)
   exact L24 _ _ _ (by rw [g]; rfl) hS1
 rw [if_neg h2] at e1
 refine Wq.ite (fun hk => ?_) (fun h3 => ?_)
 . have e2 : decR d = (varsRt d.x.vars && (consRt d.x.cons && (wordOk 3 d.x.s && (decide (0 < d.x.cons.length) && noneR d true true true false true)))) := by rw [e0, hk]; rfl
   refine Wq.callS (pu_128 d h' true true true false true) hS fun H1 nx1 hS1 => ?_
   try simp only [stpF, sttF, List.length_map]
   refine Wq.putS (put_127 _) rfl hS1 (by omega) fun u H2 nx2 hS2 => ?_
   try simp only [stpF, sttF, List.length_map]
   refine Wq.putS (put_134 d.x hx) rfl hS2 (by omega) fun u H4 nx4 hS4 => ?_
   refine Wq.done hS4 (by rw [e2]; unfold dataR; simp only [Bool.true_and, Bool.and_true, Bool.and_assoc, Bool.and_comm, Bool.and_left_comm]) (fun _ => by rw [e1, if_pos hk]; simp) (by omega)
 rw [if_neg h3] at e1
 refine Wq.ite (fun hk => ?_) (fun h4 => ?_)
 . have e2 : decR d = (conR d.c && noneR d true true true true false) := by rw [e0, hk]; rfl
   refine Wq.callS (pu_128 d h' true true true true false) hS fun H1 nx1 hS1 => ?_
   try simp only [stpF, sttF, List.length_map]
   refine Wq.putS (put_127 _) rfl hS1 (by omega) fun u H2 nx2 hS2 => ?_
   refine Wq.key [101, 120, 99, 101, 112, 116, 105, 111, 110] hS2 (by omega) fun u H3 nx3 hS3 => ?_
   try simp only [stpF, sttF, List.length_map]
   refine Wq.putS (put_135 d.c hc) rfl hS3 (by omega) fun u H4 nx4 hS4 => ?_
   refine Wq.done hS4 (by rw [e2]; simp only [Bool.true_and, Bool.and_true, Bool.and_assoc, Bool.and_comm, Bool.and_left_comm]) (fun _ => by rw [e1, if_pos hk]; simp) (by omega)
 rw [if_neg h4] at e1
 refine Wq.ite (fun hk => ?_) (fun h5 => ?_)
 . have e2 : decR d = (noneR d true false true true true && expR d.e) := by rw [e0, hk]; rfl
   refine Wq.callS (pu_128 d h' true false true true true) hS fun H1 nx1 hS1 => ?_
   try simp only [stpF, sttF, List.length_map]
   refine Wq.putS (put_127 _) rfl hS1 (by omega) fun u H2 nx2 hS2 => ?_
   try simp only [stpF, sttF, List.length_map]
   refine Wq.putS hE rfl hS2 (by omega) fun u H4 nx4 hS4 => ?_
   refine Wq.done hS4 (by rw [e2]; simp only [Bool.true_and, Bool.and_true, Bool.and_assoc, Bool.and_comm, Bool.and_left_comm]) (fun _ => by rw [e1, if_pos hk]; simp) (by omega)
 . have e2 : decR d = false := by rw [e0, if_neg h1, if_neg h5, if_neg h2, if_neg h3, if_neg h4]
   try simp only [stpF, sttF, List.length_map]
   refine Wq.bad hS fun H2 hS2 => ?_
   exact Wq.done hS2 e2.symm (fun q => by rw [e2] at q; cases q) (by omega)
def PutE (e : Exp) : Prop := Put 131 [e.v] (expR e) (expT e) (8 * e.z - 4) /\ ∀ c, c ∈ e.l -> Put 168 [c.v] (expR c) (expPT c) (8 * c.z - 2)
theorem both_131 : (∀ e : Exp, e.ok -> PutE e) /\ ∀ d : Dec, d.ok -> Put 75 [d.v] (decR d) (decT d) (8 * d.z - 2) := by
 have h1 : ∀ t : Exp, (∀ c, c ∈ t.l -> c.ok -> PutE c) -> (∀ d, d ∈ t.d -> d.ok -> Put 75 [d.v] (decR d) (decT d) (8 * d.z - 2)) -> t.ok -> PutE t := by
  intro e h1 h2 he
  have he' := (Exp.ok_iff e).1 he
  have hE : ∀ c, c ∈ e.l -> Put 168 [c.v] (expR c) (expPT c) (8 * c.z - 2) := fun c hc => put_168 c (h1 c hc (he'.2.2.1.2 c hc)).1
  exact ⟨put_131a e he hE (fun c hc => (h1 c hc (he'.2.2.1.2 c hc)).2) (fun d hd => h2 d hd (he'.2.2.2.2.2 d hd)), hE⟩
 have h2 : ∀ t : Dec, (t.e.ok -> PutE t.e) -> (∀ f, f ∈ t.f -> f.b.ok -> PutE f.b) -> t.ok -> Put 75 [t.v] (decR t) (decT t) (8 * t.z - 2) := by
  intro d h1 h2 hd
  have hd' := (Dec.ok_iff d).1 hd
  exact put_75a d hd (h1 hd'.2.1).1 fun f hf => (h2 f hf ((Fn.ok_iff f).1 (hd'.2.2.1.2 f hf)).2.2).1
 exact ⟨fun e => Exp.ind (p := fun e => e.ok -> PutE e) (q := fun d => d.ok -> Put 75 [d.v] (decR d) (decT d) (8 * d.z - 2)) h1 h2 e, fun d => Dec.ind (p := fun e => e.ok -> PutE e) (q := fun d => d.ok -> Put 75 [d.v] (decR d) (decT d) (8 * d.z - 2)) h1 h2 d⟩
def decsT (l : List Dec) : List Tok := l.flatMap fun d => decT d ++ [sgT [59]]
abbrev ToksR (nx0 : Nat) (l : List Dec) : Value -> T OB -> Nat -> Prop := fun v H nx => ∃ toks sl, v = .tuple ⟨[sl, .bool (decsRt l)]⟩ /\ TS nx0 H nx toks sl /\ (decsRt l = true -> toks = decsT l) /\ toks.length <= 8 * decsZ l
theorem w_42 (hT : TabIn nx0 H0) (l : List Dec) (hl : l.length < big) (hok : ∀ d, d ∈ l -> d.ok) (hz : decsZ l <= 500) (hA : Ag nx0 H0 nx H) : WqR P pl X0 (evT P pl (.call 42 [decsR l] false none H nx)) nx0 H0 (ToksR nx0 l) := by
 rw [q42]
 refine Wq.box hA fun H1 hb keep hA1 => ?_
 have hn0 := hA.1
 have hS : St (fun _ _ _ => False) nx nx0 H0 [] false true [] 0 H1 (nx + 1) := ⟨hT, hA1, [], false, ⟨hn0, by omega, .slice none 0 0, hb, .inl ⟨rfl, rfl⟩, (fun c o n u q => by cases q), fun x l e hx => hx.elim⟩, .start [] false⟩
 have hsum := sumN_decs l
 simp only [stpF, sttF, List.length_map]
 refine Wq.eachS l decR (fun _ d => decT d ++ [sgT [59]]) (fun d => 8 * d.z) (fun i H2 nx2 => .jump (l42_9 (ptr nx) (decsR l) (i64 (l.length : Int)) (i64 (i : Int)) H2 nx2)) hS (by simp only [List.length_nil]; omega) (fun H1 nx1 hS1 => ?_) (fun i a H1 nx1 ok' ts' n' hg hlt hb hS1 ih' => ?_)
 . obtain ⟨_, hA2, l2, b2, ⟨g1, g2, sl, g3, g4, g5, g6⟩, g7, g8, g9⟩ := hS1
   refine Wq.jmp (q42_9 ..) (fun _ => rfl) ?_
   simp only [stpF, sttF, List.length_map, not_lt_len, fp_116_0, fp_116_1, rdLoad_cell g3 agg_29 (off := 0) (u := sl) rfl, rdLoad_cell g3 agg_4 (off := 1) (u := .bool b2) rfl]
   have e1 : (!b2) = decsRt l := by rw [g7, decsRt_all]; simp
   rw [e1]
   refine Wq.retR hA2 ⟨l2, sl, rfl, g4, fun q => ?_, ?_⟩
   . rw [g8 (by rw [<- Bool.not_inj_iff, e1, q]; rfl), tokL_const]; rfl
   . simp only [List.length_nil] at g9; omega
 . have hx : (l.map Dec.v)[i]? = some a.v := by simp [hg]
   have hm := List.mem_of_getElem? hg
   have hz := a.z_pos
   simp only [List.length_nil] at hb
   refine Wq.jmp (q42_9 ..) (fun _ => rfl) ?_
   simp only [stpF, sttF, List.length_map, is_lt_len hlt, ix_24 hx]
   refine Wq.varS zero_57 sz_57 rfl (nDec _) (oDec _) hS1 fun H2 nx2 hS2 => ?_
   refine Wq.putS (both_131.2 a (hok a hm)) rfl hS2 (by simp only [List.length_nil]; omega) fun u H3 nx3 hS3 => ?_
   refine Wq.sgn [59] hS3 (by simp only [List.length_nil]; omega) fun u H4 nx4 hS4 => ?_
   simp only [stpF, wrap_succ (show i < 9223372036854775807 by have := sm_lt hl; omega)]
   exact ih' _ _ (hS4.mono rfl (fun _ => by simp) (by omega))
end
end Go.Proofs.YthjhonhhbddhkaaGreatDoor
/- The row's argument, by value. -/
namespace Go.Proofs.YthjhonhhbddhkaaGreatDoor
open Go.Ev Go.RowKit Go.ChangeShapes Go.WideShapes Go.ChangeAt
noncomputable section
set_option maxRecDepth 100000
set_option linter.unusedVariables false
set_option linter.unusedSimpArgs false
variable {H : Type} {enc : TypeId × Value -> H} {W : World} {sp : Nat -> Bool} {held : Bool}
def Wt (t : TypeId) (d : DataW H) : Prop := ∀ n, n ∈ d.weights P t -> n <= reachBytes
theorem all_mem {e : TypeId} {d : DataW H} : ∀ {l : List (DataW H)}, d ∈ l -> ∀ n, n ∈ d.weights P e -> n ∈ DataW.weightsAll P e l
 | x :: r, h, n, hn => by
   simp only [DataW.weightsAll, List.mem_append]
   rcases List.mem_cons.1 h with rfl | h
   . exact .inl hn
   . exact .inr (all_mem h n hn)
theorem open_sl {α : Type} (ev : α -> Value) (ok : α -> Prop) {t e : TypeId} {s : Nat} (ht : P.underlying t = some (.slice e)) (hc : P.cellsOf e = s) (hpos : 0 < s) (hby : 0 < P.bytesOf e) {fuel : Nat} {cs : List Value} {x : DataW H × List MemPlace}
 (hopen : ∀ m, m < fuel -> ∀ cs x, DataW.trod enc P W 0 sp held m e cs = some x -> ∃ a : α, (ev a).cells.toList.length = s /\ LR (phiW W) (ev a).cells.toList cs /\ (Wt e x.1 -> ok a))
 (h : DataW.trod enc P W 0 sp held fuel t cs = some x) : ∃ (v : Value) (l : List α), cs = [v] /\ VR (phiW W) (rowV s (l.map ev)) v /\ (Wt t x.1 -> l.length < big /\ ∀ a, a ∈ l -> ok a) := by
 have hbig : big = 1125899906842624 := rfl
 rcases DataW.trod_slice ht h with ⟨rfl, rfl⟩ | ⟨a, len, cap, elems, rest, n, rfl, rfl, rfl, hb, hl, hm, hlen, hel, _, _⟩
 . exact ⟨_, [], rfl, .row0 s, fun _ => ⟨by simp [hbig], fun a h => nomatch h⟩⟩
 . rw [hc] at hel
   have hex : ∀ i : Fin len, ∃ a' : α, ∃ cs', W.cells? 0 (a.add (i.val * s)) s = some cs' /\ (ev a').cells.toList.length = s /\ LR (phiW W) (ev a').cells.toList cs' /\ (Wt e (elems[i.val]'(by omega)).1 -> ok a') := by
    intro i
    have h1 := hel i.val i.isLt
    rw [List.getElem?_eq_getElem (by omega)] at h1
    cases hcs : W.cells? 0 (a.add (i.val * s)) s with
    | none => rw [hcs] at h1; cases h1
    | some cs' =>
      rw [hcs] at h1
      obtain ⟨a', h2, h3, h4⟩ := hopen n (Nat.lt_succ_self n) cs' _ h1
      exact ⟨a', cs', rfl, h2, h3, h4⟩
   obtain ⟨A, hA⟩ := Classical.axiomOfChoice hex
   have hg : ∀ (i : Nat) (y : α), (List.ofFn A)[i]? = some y -> ∃ hi : i < len, y = A ⟨i, hi⟩ := by
    intro i y hy
    have hi : i < len := by have := (List.getElem?_eq_some_iff.1 hy).1; simpa using this
    refine ⟨hi, ?_⟩
    rw [List.getElem?_eq_getElem (by simpa using hi)] at hy
    simpa using hy.symm
   refine ⟨_, List.ofFn A, rfl, VR_row (by simp) ?_ hpos hl ?_, fun hw => ⟨?_, ?_⟩⟩
   . intro y hy
     obtain ⟨y', hy', rfl⟩ := List.mem_map.1 hy
     obtain ⟨i, hi⟩ := List.mem_iff_getElem?.1 hy'
     obtain ⟨hlt, rfl⟩ := hg i y' hi
     obtain ⟨_, _, h2, _⟩ := hA ⟨i, hlt⟩
     exact h2
   . intro i y hy
     rw [List.getElem?_map] at hy
     cases hq : (List.ofFn A)[i]? with
     | none => rw [hq] at hy; cases hy
     | some y' =>
       rw [hq] at hy
       cases hy
       obtain ⟨hlt, rfl⟩ := hg i y' hq
       obtain ⟨cs', h1, h2, h3, _⟩ := hA ⟨i, hlt⟩
       exact ⟨cs', h1, h3⟩
   . have := hw ((elems.length + rest.length) * P.bytesOf e) (by simp [DataW.weights, ht])
     have h2 : elems.length + rest.length <= (elems.length + rest.length) * P.bytesOf e := Nat.le_mul_of_pos_right _ hby
     have hr : reachBytes = 140737488351232 := rfl
     simp only [List.length_ofFn]
     omega
   . intro y hy
     obtain ⟨i, hi⟩ := List.mem_iff_getElem?.1 hy
     obtain ⟨hlt, rfl⟩ := hg i y hi
     obtain ⟨_, _, _, _, h4⟩ := hA ⟨i, hlt⟩
     refine h4 fun n hn => hw n ?_
     have hmem : (elems[i]'(by omega)).1 ∈ elems.map (·.1) := List.mem_map.2 ⟨_, List.getElem_mem _, rfl⟩
     simp only [DataW.weights, ht, List.mem_cons, List.mem_append]
     exact .inr (.inl (all_mem hmem n hn))
theorem c2 : P.cellsOf 2 = 1 := by kernel_rfl
theorem c3 : P.cellsOf 3 = 1 := by kernel_rfl
theorem c9 : P.cellsOf 9 = 1 := by kernel_rfl
theorem c24 : P.cellsOf 24 = 1 := by kernel_rfl
theorem c41 : P.cellsOf 41 = 1 := by kernel_rfl
theorem c42 : P.cellsOf 42 = 1 := by kernel_rfl
theorem c48 : P.cellsOf 48 = 1 := by kernel_rfl
theorem c49 : P.cellsOf 49 = 1 := by kernel_rfl
theorem c50 : P.cellsOf 50 = 1 := by kernel_rfl
theorem c53 : P.cellsOf 53 = 1 := by kernel_rfl
theorem c44 : P.cellsOf 44 = 6 := by kernel_rfl
theorem c47 : P.cellsOf 47 = 4 := by kernel_rfl
theorem c57 : P.cellsOf 57 = 17 := by kernel_rfl
theorem c65 : P.cellsOf 65 = 8 := by kernel_rfl
theorem c52 : P.cellsOf 52 = 3 := by kernel_rfl
theorem c55 : P.cellsOf 55 = 2 := by kernel_rfl
theorem c138 : P.cellsOf 138 = 3 := by kernel_rfl
theorem rg_wf {n : Int} (h : (Lit.int .i64 n).wf = true) : rg n := by
 have : IntKind.i64.min = -9223372036854775808 := by decide
 have : IntKind.i64.max = 9223372036854775807 := by decide
 simp only [Lit.wf, Bool.and_eq_true, decide_eq_true_eq] at h
 unfold rg
 omega
def Op (enc : TypeId × Value -> H) (W : World) (sp : Nat -> Bool) (held : Bool) {α : Type} (t : TypeId) (s : Nat) (ev : α -> Value) (ok : α -> Prop) (fuel : Nat) : Prop := ∀ cs x, DataW.trod enc P W 0 sp held fuel t cs = some x -> ∃ a : α, (ev a).cells.toList.length = s /\ LR (phiW W) (ev a).cells.toList cs /\ (Wt t x.1 -> ok a)
theorem vrs {φ : Phi} (s : ByteArray) : VR φ (txt s.data.toList) (.string s) := by
 have es : txt s.data.toList = .string s := by cases s; rfl
 rw [es]; exact .flat _ rfl
theorem op_str (fuel : Nat) : Op enc W sp held 9 1 txt sOk fuel := by
 intro cs x h
 obtain ⟨s, rfl, q, _⟩ := DataW.trod_string Tryz.underlying9 h
 have es : txt s.data.toList = .string s := by cases s; rfl
 refine ⟨s.data.toList, rfl, ?_, fun hw => ?_⟩
 . rw [es]; exact .cons (.flat _ rfl) .nil
 . have hr : reachBytes = 140737488351232 := rfl
   have e1 : s.data.toList.length = s.size := by rw [Array.length_toList]; rfl
   have hz := hw s.size (by subst q; simp [DataW.weights, e1])
   show s.data.toList.length < _
   omega
theorem op_pat1 {fuel : Nat} (ih : ∀ m, m < fuel -> Op enc W sp held 47 4 Pat.v Pat.ok m) : Op enc W sp held 47 4 Pat.v Pat.ok fuel := by
 intro cs x h
 obtain ⟨xs, n, rfl, rfl, hl, hlen, hf⟩ := DataW.trod_struct Tryz.underlying47 h
 rw [c47] at hl
 match xs, hlen with
 | [y0, y1, y2, y3], _ =>
   match cs, hl with
   | [v0, v1, v2, v3], _ =>
     have h0 := hf 0 _ rfl
     have h1 := hf 1 _ rfl
     have h2 := hf 2 _ rfl
     have h3 := hf 3 _ rfl
     simp [c2, c3, c42, c9] at h0 h1 h2 h3
     obtain ⟨n0, e0, q0, w0⟩ := DataW.trod_int Tryz.underlying3 h0
     obtain ⟨n1, e1, q1, w1⟩ := DataW.trod_int Tryz.underlying2 h1
     obtain ⟨s2, e2, q2, w2⟩ := DataW.trod_string Tryz.underlying9 h2
     obtain ⟨u3, l3, e3, r3, z3⟩ := open_sl Pat.v Pat.ok Tryz.underlying42 c47 (by omega) (of_decide_eq_true (by kernel_rfl)) (fun m hm cs x h => ih m (by omega) cs x h) h3
     simp at e0 e1 e2 e3
     subst e0 e1 e2 e3
     refine ⟨(Pat.mk n0 n1 s2.data.toList l3), by rw [Pat.v_eq]; rfl, ?_, fun hw => ?_⟩
     . show LR (phiW W) (Pat.cs (Pat.mk n0 n1 s2.data.toList l3)) _
       rw [Pat.cs, patsV_eq]
       exact (LR.cons (.flat _ rfl) (LR.cons (.flat _ rfl) (LR.cons (vrs s2) (LR.cons r3 .nil))))
     . have hr : reachBytes = 140737488351232 := rfl
       have e12 : s2.data.toList.length = s2.size := by rw [Array.length_toList]; rfl
       have hs2 : s2.data.toList.length < 140737488355328 := by
        have hz := hw s2.size (by subst q0 q1 q2; simp [DataW.weights, Tryz.underlying47, DataW.weightsEach, e12])
        omega
       have hz3 := z3 fun k hk => hw k (by simp [DataW.weights, Tryz.underlying47, DataW.weightsEach, hk])
       rw [Pat.ok_iff]; exact ⟨rg_wf w1, hs2, hz3.1, hz3.2⟩
theorem op_pat (fuel : Nat) : Op enc W sp held 47 4 Pat.v Pat.ok fuel := Nat.strongRecOn fuel fun n ih => op_pat1 ih
theorem op_ty1 {fuel : Nat} (ih : ∀ m, m < fuel -> Op enc W sp held 138 3 TyS.v TyS.ok m) : Op enc W sp held 138 3 TyS.v TyS.ok fuel := by
 intro cs x h
 obtain ⟨xs, n, rfl, rfl, hl, hlen, hf⟩ := DataW.trod_struct Tryz.underlying138 h
 rw [c138] at hl
 match xs, hlen with
 | [y0, y1, y2], _ =>
   match cs, hl with
   | [v0, v1, v2], _ =>
     have h0 := hf 0 _ rfl
     have h1 := hf 1 _ rfl
     have h2 := hf 2 _ rfl
     simp [c3, c53, c9] at h0 h1 h2
     obtain ⟨n0, e0, q0, w0⟩ := DataW.trod_int Tryz.underlying3 h0
     obtain ⟨s1, e1, q1, w1⟩ := DataW.trod_string Tryz.underlying9 h1
     obtain ⟨u2, l2, e2, r2, z2⟩ := open_sl TyS.v TyS.ok Tryz.underlying53 c138 (by omega) (of_decide_eq_true (by kernel_rfl)) (fun m hm cs x h => ih m (by omega) cs x h) h2
     simp at e0 e1 e2
     subst e0 e1 e2
     refine ⟨(TyS.mk n0 s1.data.toList l2), by rw [TyS.v_eq]; rfl, ?_, fun hw => ?_⟩
     . show LR (phiW W) (TyS.cs (TyS.mk n0 s1.data.toList l2)) _
       rw [TyS.cs, tysV_eq]
       exact (LR.cons (.flat _ rfl) (LR.cons (vrs s1) (LR.cons r2 .nil)))
     . have hr : reachBytes = 140737488351232 := rfl
       have e11 : s1.data.toList.length = s1.size := by rw [Array.length_toList]; rfl
       have hs1 : s1.data.toList.length < 140737488355328 := by
        have hz := hw s1.size (by subst q0 q1; simp [DataW.weights, Tryz.underlying138, DataW.weightsEach, e11])
        omega
       have hz2 := z2 fun k hk => hw k (by simp [DataW.weights, Tryz.underlying138, DataW.weightsEach, hk])
       rw [TyS.ok_iff]; exact ⟨hs1, hz2.1, hz2.2⟩
theorem op_ty (fuel : Nat) : Op enc W sp held 138 3 TyS.v TyS.ok fuel := Nat.strongRecOn fuel fun n ih => op_ty1 ih
theorem op_con (fuel : Nat) : Op enc W sp held 55 2 Con.v Con.ok fuel := by
 intro cs x h
 obtain ⟨xs, n, rfl, rfl, hl, hlen, hf⟩ := DataW.trod_struct Tryz.underlying55 h
 rw [c55] at hl
 match xs, hlen with
 | [y0, y1], _ =>
   match cs, hl with
   | [v0, v1], _ =>
     have h0 := hf 0 _ rfl
     have h1 := hf 1 _ rfl
     simp [c53, c9] at h0 h1
     obtain ⟨s0, e0, q0, w0⟩ := DataW.trod_string Tryz.underlying9 h0
     obtain ⟨u1, l1, e1, r1, z1⟩ := open_sl TyS.v TyS.ok Tryz.underlying53 c138 (by omega) (of_decide_eq_true (by kernel_rfl)) (fun m hm cs x h => op_ty m cs x h) h1
     simp at e0 e1
     subst e0 e1
     refine ⟨⟨s0.data.toList, l1⟩, by rw [Con.v_eq]; rfl, ?_, fun hw => ?_⟩
     . show LR (phiW W) (Con.cs ⟨s0.data.toList, l1⟩) _
       unfold Con.cs
       exact (LR.cons (vrs s0) (LR.cons r1 .nil))
     . have hr : reachBytes = 140737488351232 := rfl
       have e10 : s0.data.toList.length = s0.size := by rw [Array.length_toList]; rfl
       have hs0 : s0.data.toList.length < 140737488355328 := by
        have hz := hw s0.size (by subst q0; simp [DataW.weights, Tryz.underlying55, DataW.weightsEach, e10])
        omega
       have hz1 := z1 fun k hk => hw k (by simp [DataW.weights, Tryz.underlying55, DataW.weightsEach, hk])
       exact ⟨hs0, hz1.1, hz1.2⟩
theorem op_data (fuel : Nat) : Op enc W sp held 52 3 Data.v Data.ok fuel := by
 intro cs x h
 obtain ⟨xs, n, rfl, rfl, hl, hlen, hf⟩ := DataW.trod_struct Tryz.underlying52 h
 rw [c52] at hl
 match xs, hlen with
 | [y0, y1, y2], _ =>
   match cs, hl with
   | [v0, v1, v2], _ =>
     have h0 := hf 0 _ rfl
     have h1 := hf 1 _ rfl
     have h2 := hf 2 _ rfl
     simp [c49, c50, c9] at h0 h1 h2
     obtain ⟨u0, l0, e0, r0, z0⟩ := open_sl txt sOk Tryz.underlying49 c9 (by omega) (of_decide_eq_true (by kernel_rfl)) (fun m hm cs x h => op_str m cs x h) h0
     obtain ⟨s1, e1, q1, w1⟩ := DataW.trod_string Tryz.underlying9 h1
     obtain ⟨u2, l2, e2, r2, z2⟩ := open_sl Con.v Con.ok Tryz.underlying50 c55 (by omega) (of_decide_eq_true (by kernel_rfl)) (fun m hm cs x h => op_con m cs x h) h2
     simp at e0 e1 e2
     subst e0 e1 e2
     refine ⟨⟨l0, s1.data.toList, l2⟩, by rw [Data.v_eq]; rfl, ?_, fun hw => ?_⟩
     . show LR (phiW W) (Data.cs ⟨l0, s1.data.toList, l2⟩) _
       unfold Data.cs
       exact (LR.cons r0 (LR.cons (vrs s1) (LR.cons r2 .nil)))
     . have hr : reachBytes = 140737488351232 := rfl
       have hz0 := z0 fun k hk => hw k (by simp [DataW.weights, Tryz.underlying52, DataW.weightsEach, hk])
       have e11 : s1.data.toList.length = s1.size := by rw [Array.length_toList]; rfl
       have hs1 : s1.data.toList.length < 140737488355328 := by
        have hz := hw s1.size (by subst q1; simp [DataW.weights, Tryz.underlying52, DataW.weightsEach, e11])
        omega
       have hz2 := z2 fun k hk => hw k (by simp [DataW.weights, Tryz.underlying52, DataW.weightsEach, hk])
       exact ⟨hz0, hs1, hz2.1, hz2.2⟩
theorem op_fn {fuel : Nat} (ih : ∀ m, m < fuel -> Op enc W sp held 44 6 Exp.v Exp.ok m /\ Op enc W sp held 57 17 Dec.v Dec.ok m) : Op enc W sp held 65 8 Fn.v Fn.ok fuel := by
 intro cs x h
 obtain ⟨xs, n, rfl, rfl, hl, hlen, hf⟩ := DataW.trod_struct Tryz.underlying65 h
 rw [c65] at hl
 match xs, hlen with
 | [y0, y1, y2], _ =>
   match cs, hl with
   | [v0, v1, v2, v3, v4, v5, v6, v7], _ =>
     have h0 := hf 0 _ rfl
     have h1 := hf 1 _ rfl
     have h2 := hf 2 _ rfl
     simp [c42, c44, c9] at h0 h1 h2
     obtain ⟨s0, e0, q0, w0⟩ := DataW.trod_string Tryz.underlying9 h0
     obtain ⟨u1, l1, e1, r1, z1⟩ := open_sl Pat.v Pat.ok Tryz.underlying42 c47 (by omega) (of_decide_eq_true (by kernel_rfl)) (fun m hm cs x h => op_pat m cs x h) h1
     obtain ⟨t2, g2, r2, z2⟩ := (ih n (by omega)).1 _ _ h2
     simp at e0 e1
     subst e0 e1
     refine ⟨(Fn.mk s0.data.toList l1 t2), by rw [Fn.v_eq]; rfl, ?_, fun hw => ?_⟩
     . show LR (phiW W) (Fn.cs (Fn.mk s0.data.toList l1 t2)) _
       rw [Fn.cs]
       exact (LR.cons (vrs s0) (LR.cons r1 r2))
     . have hr : reachBytes = 140737488351232 := rfl
       have e10 : s0.data.toList.length = s0.size := by rw [Array.length_toList]; rfl
       have hs0 : s0.data.toList.length < 140737488355328 := by
        have hz := hw s0.size (by subst q0; simp [DataW.weights, Tryz.underlying65, DataW.weightsEach, e10])
        omega
       have hz1 := z1 fun k hk => hw k (by simp [DataW.weights, Tryz.underlying65, DataW.weightsEach, hk])
       have hz2 := z2 fun k hk => hw k (by simp [DataW.weights, Tryz.underlying65, DataW.weightsEach, hk])
       rw [Fn.ok_iff]; exact ⟨hs0, hz1, hz2⟩
theorem op_exp1 {fuel : Nat} (ih : ∀ m, m < fuel -> Op enc W sp held 44 6 Exp.v Exp.ok m /\ Op enc W sp held 57 17 Dec.v Dec.ok m) : Op enc W sp held 44 6 Exp.v Exp.ok fuel := by
 intro cs x h
 obtain ⟨xs, n, rfl, rfl, hl, hlen, hf⟩ := DataW.trod_struct Tryz.underlying44 h
 rw [c44] at hl
 match xs, hlen with
 | [y0, y1, y2, y3, y4, y5], _ =>
   match cs, hl with
   | [v0, v1, v2, v3, v4, v5], _ =>
     have h0 := hf 0 _ rfl
     have h1 := hf 1 _ rfl
     have h2 := hf 2 _ rfl
     have h3 := hf 3 _ rfl
     have h4 := hf 4 _ rfl
     have h5 := hf 5 _ rfl
     simp [c2, c24, c3, c41, c42, c9] at h0 h1 h2 h3 h4 h5
     obtain ⟨n0, e0, q0, w0⟩ := DataW.trod_int Tryz.underlying3 h0
     obtain ⟨n1, e1, q1, w1⟩ := DataW.trod_int Tryz.underlying2 h1
     obtain ⟨s2, e2, q2, w2⟩ := DataW.trod_string Tryz.underlying9 h2
     obtain ⟨u3, l3, e3, r3, z3⟩ := open_sl Exp.v Exp.ok Tryz.underlying41 c44 (by omega) (of_decide_eq_true (by kernel_rfl)) (fun m hm cs x h => (ih m (by omega)).1 cs x h) h3
     obtain ⟨u4, l4, e4, r4, z4⟩ := open_sl Pat.v Pat.ok Tryz.underlying42 c47 (by omega) (of_decide_eq_true (by kernel_rfl)) (fun m hm cs x h => op_pat m cs x h) h4
     obtain ⟨u5, l5, e5, r5, z5⟩ := open_sl Dec.v Dec.ok Tryz.underlying24 c57 (by omega) (of_decide_eq_true (by kernel_rfl)) (fun m hm cs x h => (ih m (by omega)).2 cs x h) h5
     simp at e0 e1 e2 e3 e4 e5
     subst e0 e1 e2 e3 e4 e5
     refine ⟨(Exp.mk n0 n1 s2.data.toList l3 l4 l5), by rw [Exp.v_eq]; rfl, ?_, fun hw => ?_⟩
     . show LR (phiW W) (Exp.cs (Exp.mk n0 n1 s2.data.toList l3 l4 l5)) _
       rw [Exp.cs, expsV_eq, decsV_eq]
       exact (LR.cons (.flat _ rfl) (LR.cons (.flat _ rfl) (LR.cons (vrs s2) (LR.cons r3 (LR.cons r4 (LR.cons r5 .nil))))))
     . have hr : reachBytes = 140737488351232 := rfl
       have e12 : s2.data.toList.length = s2.size := by rw [Array.length_toList]; rfl
       have hs2 : s2.data.toList.length < 140737488355328 := by
        have hz := hw s2.size (by subst q0 q1 q2; simp [DataW.weights, Tryz.underlying44, DataW.weightsEach, e12])
        omega
       have hz3 := z3 fun k hk => hw k (by simp [DataW.weights, Tryz.underlying44, DataW.weightsEach, hk])
       have hz4 := z4 fun k hk => hw k (by simp [DataW.weights, Tryz.underlying44, DataW.weightsEach, hk])
       have hz5 := z5 fun k hk => hw k (by simp [DataW.weights, Tryz.underlying44, DataW.weightsEach, hk])
       rw [Exp.ok_iff]; exact ⟨rg_wf w1, hs2, hz3, hz4, hz5.1, hz5.2⟩
theorem op_dec1 {fuel : Nat} (ih : ∀ m, m < fuel -> Op enc W sp held 44 6 Exp.v Exp.ok m /\ Op enc W sp held 57 17 Dec.v Dec.ok m) : Op enc W sp held 57 17 Dec.v Dec.ok fuel := by
 intro cs x h
 obtain ⟨xs, n, rfl, rfl, hl, hlen, hf⟩ := DataW.trod_struct Tryz.underlying57 h
 rw [c57] at hl
 match xs, hlen with
 | [y0, y1, y2, y3, y4, y5], _ =>
   match cs, hl with
   | [v0, v1, v2, v3, v4, v5, v6, v7, v8, v9, v10, v11, v12, v13, v14, v15, v16], _ =>
     have h0 := hf 0 _ rfl
     have h1 := hf 1 _ rfl
     have h2 := hf 2 _ rfl
     have h3 := hf 3 _ rfl
     have h4 := hf 4 _ rfl
     have h5 := hf 5 _ rfl
     simp [c3, c44, c47, c48, c52, c55] at h0 h1 h2 h3 h4 h5
     obtain ⟨n0, e0, q0, w0⟩ := DataW.trod_int Tryz.underlying3 h0
     obtain ⟨t1, g1, r1, z1⟩ := op_pat n _ _ h1
     obtain ⟨t2, g2, r2, z2⟩ := (ih n (by omega)).1 _ _ h2
     obtain ⟨u3, l3, e3, r3, z3⟩ := open_sl Fn.v Fn.ok Tryz.underlying48 c65 (by omega) (of_decide_eq_true (by kernel_rfl)) (fun m hm cs x h => op_fn (fun k hk => ih k (by omega)) cs x h) h3
     obtain ⟨t4, g4, r4, z4⟩ := op_data n _ _ h4
     obtain ⟨t5, g5, r5, z5⟩ := op_con n _ _ h5
     simp at e0 e3
     subst e0 e3
     refine ⟨(Dec.mk n0 t1 t2 l3 t4 t5), by rw [Dec.v_eq]; rfl, ?_, fun hw => ?_⟩
     . show LR (phiW W) (Dec.cs (Dec.mk n0 t1 t2 l3 t4 t5)) _
       rw [Dec.cs, fnsV_eq]
       exact (LR.cons (.flat _ rfl) (LR.append r1 (LR.append r2 (LR.cons r3 (LR.append r4 r5)))))
     . have hr : reachBytes = 140737488351232 := rfl
       have hz1 := z1 fun k hk => hw k (by simp [DataW.weights, Tryz.underlying57, DataW.weightsEach, hk])
       have hz2 := z2 fun k hk => hw k (by simp [DataW.weights, Tryz.underlying57, DataW.weightsEach, hk])
       have hz3 := z3 fun k hk => hw k (by simp [DataW.weights, Tryz.underlying57, DataW.weightsEach, hk])
       have hz4 := z4 fun k hk => hw k (by simp [DataW.weights, Tryz.underlying57, DataW.weightsEach, hk])
       have hz5 := z5 fun k hk => hw k (by simp [DataW.weights, Tryz.underlying57, DataW.weightsEach, hk])
       rw [Dec.ok_iff]; exact ⟨hz1, hz2, hz3, hz4, hz5⟩
theorem op_both (fuel : Nat) : Op enc W sp held 44 6 Exp.v Exp.ok fuel /\ Op enc W sp held 57 17 Dec.v Dec.ok fuel := Nat.strongRecOn fuel fun n ih => ⟨op_exp1 ih, op_dec1 ih⟩
theorem open_decs {A : Option Addr} {ln cp : Nat} {d : DataW H} {ps : List MemPlace} (h : DataW.Trod enc P W 0 sp held 24 (.slice A ln cp) d ps) : ∃ l : List Dec, VR (phiW W) (decsR l) (.slice A ln cp) /\ (Wt 24 d -> l.length < big /\ ∀ a, a ∈ l -> a.ok) := by
 obtain ⟨fuel, hf⟩ := h
 obtain ⟨u, l, e, r, z⟩ := open_sl Dec.v Dec.ok Tryz.underlying24 c57 (by omega) (of_decide_eq_true (by kernel_rfl)) (fun m _ cs x h => (op_both m).2 cs x h) hf
 have e' : [Value.slice A ln cp] = [u] := e
 cases e'
 exact ⟨l, r, z⟩
end
end Go.Proofs.YthjhonhhbddhkaaGreatDoor
/- What is known: a fixed run. -/
namespace Go.Proofs.YthjhonhhbddhkaaGreatDoor
open Go.Ev Go.RowKit
noncomputable section
set_option maxRecDepth 100000
set_option linter.unusedVariables false
def isTrue (r : Option Rt) : Bool := match r with
 | some ⟨.ret (.bool true), false, _, _⟩ => true
 | _ => false
def pl0 : Pol := ⟨[], [], [], [], false⟩
theorem known_run : memK tabs .leaf (fun H => isTrue (FD P pl0 (fun _ _ => none) 1000 (.call 11 [] false none H 11))) = true := by kernel_rfl
end
end Go.Proofs.YthjhonhhbddhkaaGreatDoor
