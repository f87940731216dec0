/- What steps need; which steps are right. -/
import Derived.Test.YtfdgoenmdalphaaDoorS3
namespace Go.Proofs.YtfdgoenmdalphaaDoor
open Go.Ev Go.RowKit
noncomputable section
set_option maxRecDepth 100000
set_option linter.unusedVariables false
set_option linter.unusedSimpArgs false
theorem zero_3 : zeroC P 3 = some [i64 0] := by kernel_rfl
theorem sm_3 (n : Nat) : apSmall P 3 1 n = (Nat.ble n 1048576 && true) := by kernel_rfl
theorem sm_3' {n : Nat} (h : n ≤ 1048576) : apSmall P 3 1 n = true := by rw [sm_3, Nat.ble_eq_true_of_le h]; rfl
theorem fill_3 (n : Int) : Instr.fill (fun i => some (i * 1, 1)) (zeroRow [i64 0] (1 * 1)) [(0, i64 n)] = some ⟨[i64 n]⟩ := by kernel_rfl
theorem flat_ints (l : List Int) : ((l.map i64).flatMap fun u => u.cells.toList) = l.map i64 := by
  induction l with
  | nil => rfl
  | cons a l ih => rw [List.map_cons, List.flatMap_cons, ih]; rfl
theorem one_ints (l : List Int) : (l.map i64).all (fun x => Ev.bK false true (oneCell x)) = true := by
  induction l with
  | nil => rfl
  | cons a l ih => rw [List.map_cons, List.all_cons, ih]; rfl
end
end Go.Proofs.YtfdgoenmdalphaaDoor
