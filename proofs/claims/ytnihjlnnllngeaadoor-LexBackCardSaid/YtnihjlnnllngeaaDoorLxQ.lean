/- The fixed calls are right; two rows of tokens that are the same. -/
import Derived.Test.YtnihjlnnllngeaaDoorLxT
import Derived.Test.YtnihjlnnllngeaaDoorFKnown
import Derived.Test.YtnihjlnnllngeaaDoorFRSame
namespace Go.Proofs.YtnihjlnnllngeaaDoor.Lx
open Go.RowKit Go.Proofs.YtnihjlnnllngeaaDoorW.PrintWords Go.Proofs.YtnihjlnnllngeaaDoor.PL
set_option linter.unusedVariables false
set_option linter.unusedSimpArgs false
set_option linter.unusedSectionVars false
theorem known_g : Ev (fun k => kindlinglaw07_known.f k) true :=
  Ev.of (fun k => kindlinglaw07_known.mono k) (k := 100) kindlinglaw07_known.now
/-- A token but for its place. -/
def keyT (t : S32) : Int × ByteArray × Int := (t.f0, t.f1, t.f2)
theorem rd_get {l : List S32} {i : Nat} (h : i < l.length) : rd_T32 l (i : Int) = l[i] := by
  simp [rd_T32, List.getElem?_eq_getElem h]
theorem same_gen (l m : List S32) (p : Bool) (hl : l.length ≤ 140737488351232) (he : l.length = m.length) (hk : l.map keyT = m.map keyT) (hp : p = true → l = m) :
    ∀ (n i : Nat), l.length - i ≤ n → Ev (fun k => kindlingref07_Same.l0 k l m p (i : Int)) true := by
  intro n
  induction n with
  | zero =>
    intro i hm
    refine Ev.step (f := fun _ => some true) (fun k => ?_) (Ev.now _)
    simp only [kindlingref07_Same.l0]
    rw [if_neg (by omega)]
  | succ n ih =>
    intro i hm
    by_cases hi : i < l.length
    case neg => exact ih i (by omega)
    have hm2 : i < m.length := by omega
    have e : keyT (rd_T32 l i) = keyT (rd_T32 m i) := by
      rw [rd_get hi, rd_get hm2]
      have h1 : (l.map keyT)[i]? = (m.map keyT)[i]? := by rw [hk]
      simpa [List.getElem?_eq_getElem hi, List.getElem?_eq_getElem hm2] using h1
    simp only [keyT, Prod.mk.injEq] at e
    obtain ⟨e0, e1, e2⟩ := e
    have j : ∀ k a b c d, kindlingref07_Same.j1 (k + 1) l m p (i : Int) a b c d a b c d = kindlingref07_Same.l0 k l m p ((i + 1 : Nat) : Int) := by
      intro k a b c d
      simp only [kindlingref07_Same.j1]
      rw [if_neg (by simp), w64_1 (Nat.le_of_lt hi) hl]
    by_cases h : p = true
    · have e3 : (rd_T32 l i).f3 = (rd_T32 m i).f3 := by rw [hp h]
      refine Ev.step (f := fun k => kindlingref07_Same.j1 k l m p (i : Int) (rd_T32 l i).f0 (rd_T32 l i).f1 (rd_T32 l i).f2 (rd_T32 l i).f3 (rd_T32 l i).f0 (rd_T32 l i).f1 (rd_T32 l i).f2 (rd_T32 l i).f3) (fun k => ?_) (Ev.step (fun k => j k _ _ _ _) (ih (i + 1) (by omega)))
      · simp only [kindlingref07_Same.l0]
        rw [if_pos (by omega), if_pos (by omega), if_pos (by omega), if_pos h, ← e0, ← e1, ← e2, ← e3]
    · refine Ev.step (f := fun k => kindlingref07_Same.j1 k l m p (i : Int) (rd_T32 l i).f0 (rd_T32 l i).f1 (rd_T32 l i).f2 0 (rd_T32 l i).f0 (rd_T32 l i).f1 (rd_T32 l i).f2 0) (fun k => ?_) (Ev.step (fun k => j k _ _ _ _) (ih (i + 1) (by omega)))
      · simp only [kindlingref07_Same.l0]
        rw [if_pos (by omega), if_pos (by omega), if_pos (by omega), if_neg h, ← e0, ← e1, ← e2]
theorem same_g (l m : List S32) (p : Bool) (hl : l.length ≤ 140737488351232) (hk : l.map keyT = m.map keyT) (hp : p = true → l = m) : Ev (fun k => kindlingref07_Same.f k l m p) true := by
  have he : l.length = m.length := by simpa using congrArg List.length hk
  have := same_gen l m p hl he hk hp l.length 0 (by omega)
  refine Ev.congr (fun k => ?_) this
  unfold kindlingref07_Same.f
  rw [if_pos (by omega)]
  rfl
/-- Nothing more to do but the fixed calls. -/
theorem known_b : Ev (fun k => (kindlinglaw07_known.f k).bind fun t => some t) true := Ev.bind known_g (Ev.now _)
end Go.Proofs.YtnihjlnnllngeaaDoor.Lx
