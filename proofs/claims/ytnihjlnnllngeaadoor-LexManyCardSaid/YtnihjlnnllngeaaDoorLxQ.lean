/- The fixed calls are right; two rows of tokens that are the same. -/
import Derived.Test.YtnihjlnnllngeaaDoorLxT
import Derived.Test.YtnihjlnnllngeaaDoorFKnown
import Derived.Test.YtnihjlnnllngeaaDoorFRAmong
namespace Go.Proofs.YtnihjlnnllngeaaDoor.Lx
open Go.RowKit Go.Proofs.YtnihjlnnllngeaaDoorW.PrintWords Go.Proofs.YtnihjlnnllngeaaDoor.PL
set_option linter.unusedVariables false
set_option linter.unusedSimpArgs false
set_option linter.unusedSectionVars false
theorem known_g : Ev (fun k => kindlinglaw07_known.f k) true :=
  Ev.of (fun k => kindlinglaw07_known.mono k) (k := 100) kindlinglaw07_known.now
theorem rd_get {l : List S32} {i : Nat} (h : i < l.length) : rd_T32 l (i : Int) = l[i] := by
  simp [rd_T32, List.getElem?_eq_getElem h]
theorem rd_last (l : List S32) (t : S32) : rd_T32 (l ++ [t]) (l.length : Int) = t := by
  rw [rd_get (by simp)]; simp
/-- Nothing more to do but the fixed calls. -/
theorem known_b : Ev (fun k => (kindlinglaw07_known.f k).bind fun t => some t) true := Ev.bind known_g (Ev.now _)
theorem among_g (w : Int) {n : Nat} (h : 0 < n) (hn : n ≤ 1000000) : ∃ r : Nat, kindlingref01_Among.f w (n : Int) = some (r : Int) ∧ r < n := by
  have h1 := Int.tmod_lt_of_pos w (show (0 : Int) < n by omega)
  have h2 := Int.lt_tmod_of_pos w (show (0 : Int) < n by omega)
  unfold kindlingref01_Among.f
  rw [if_neg (by omega), if_neg (by omega)]
  by_cases c : w.tmod n < 0
  · rw [if_pos c, w64 (by omega) (by omega)]
    exact ⟨(w.tmod n + n).toNat, by congr 1; omega, by omega⟩
  · rw [if_neg c]
    exact ⟨(w.tmod n).toNat, by congr 1; omega, by omega⟩
end Go.Proofs.YtnihjlnnllngeaaDoor.Lx
