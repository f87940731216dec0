/- What the types are that the functions name. -/
import Derived.Test.YtfdgoenmdalphaaDoorRa0
import Derived.KernelRfl
import Derived.Test.YtfdgoenmdalphaaDoorQQ
namespace Go.Proofs.YtfdgoenmdalphaaDoor
open Go.Ev Go.RowKit
noncomputable section
@[simp] theorem fa_26_0 (c0 c1 c2 c3 : Value) : rdFieldAddr P 26 (some (eptrV (.agg ⟨[c0, c1, c2, c3]⟩))) 0 = optK (bif oneCell c0 then some c0 else none) (fun x => some (eptrV x)) none := by kernel_rfl
@[simp] theorem fa_26_1 (c0 c1 c2 c3 : Value) : rdFieldAddr P 26 (some (eptrV (.agg ⟨[c0, c1, c2, c3]⟩))) 1 = optK (bif oneCell c1 then some c1 else none) (fun x => some (eptrV x)) none := by kernel_rfl
@[simp] theorem fa_26_2 (c0 c1 c2 c3 : Value) : rdFieldAddr P 26 (some (eptrV (.agg ⟨[c0, c1, c2, c3]⟩))) 2 = optK (bif oneCell c2 then some c2 else none) (fun x => some (eptrV x)) none := by kernel_rfl
@[simp] theorem fa_26_3 (c0 c1 c2 c3 : Value) : rdFieldAddr P 26 (some (eptrV (.agg ⟨[c0, c1, c2, c3]⟩))) 3 = optK (bif oneCell c3 then some c3 else none) (fun x => some (eptrV x)) none := by kernel_rfl
@[simp] theorem fa_31_0 (c0 c1 c2 c3 : Value) : rdFieldAddr P 31 (some (eptrV (.agg ⟨[c0, c1, c2, c3]⟩))) 0 = optK (bif oneCell c0 then some c0 else none) (fun x => some (eptrV x)) none := by kernel_rfl
@[simp] theorem fa_31_1 (c0 c1 c2 c3 : Value) : rdFieldAddr P 31 (some (eptrV (.agg ⟨[c0, c1, c2, c3]⟩))) 1 = optK (bif oneCell c1 then some c1 else none) (fun x => some (eptrV x)) none := by kernel_rfl
@[simp] theorem fa_31_2 (c0 c1 c2 c3 : Value) : rdFieldAddr P 31 (some (eptrV (.agg ⟨[c0, c1, c2, c3]⟩))) 2 = optK (bif oneCell c2 then some c2 else none) (fun x => some (eptrV x)) none := by kernel_rfl
@[simp] theorem fa_31_3 (c0 c1 c2 c3 : Value) : rdFieldAddr P 31 (some (eptrV (.agg ⟨[c0, c1, c2, c3]⟩))) 3 = optK (bif oneCell c3 then some c3 else none) (fun x => some (eptrV x)) none := by kernel_rfl
@[simp] theorem fa_33_0 (c0 c1 c2 c3 c4 c5 : Value) : rdFieldAddr P 33 (some (eptrV (.agg ⟨[c0, c1, c2, c3, c4, c5]⟩))) 0 = optK (bif oneCell c0 then some c0 else none) (fun x => some (eptrV x)) none := by kernel_rfl
@[simp] theorem fa_33_1 (c0 c1 c2 c3 c4 c5 : Value) : rdFieldAddr P 33 (some (eptrV (.agg ⟨[c0, c1, c2, c3, c4, c5]⟩))) 1 = optK (bif oneCell c1 then some c1 else none) (fun x => some (eptrV x)) none := by kernel_rfl
@[simp] theorem fa_33_2 (c0 c1 c2 c3 c4 c5 : Value) : rdFieldAddr P 33 (some (eptrV (.agg ⟨[c0, c1, c2, c3, c4, c5]⟩))) 2 = some (eptrV (.agg ⟨[c2, c3, c4, c5]⟩)) := by kernel_rfl
@[simp] theorem fa_43_0 (c0 c1 c2 c3 c4 c5 : Value) : rdFieldAddr P 43 (some (eptrV (.agg ⟨[c0, c1, c2, c3, c4, c5]⟩))) 0 = optK (bif oneCell c0 then some c0 else none) (fun x => some (eptrV x)) none := by kernel_rfl
@[simp] theorem fa_43_1 (c0 c1 c2 c3 c4 c5 : Value) : rdFieldAddr P 43 (some (eptrV (.agg ⟨[c0, c1, c2, c3, c4, c5]⟩))) 1 = optK (bif oneCell c1 then some c1 else none) (fun x => some (eptrV x)) none := by kernel_rfl
@[simp] theorem fa_43_2 (c0 c1 c2 c3 c4 c5 : Value) : rdFieldAddr P 43 (some (eptrV (.agg ⟨[c0, c1, c2, c3, c4, c5]⟩))) 2 = optK (bif oneCell c2 then some c2 else none) (fun x => some (eptrV x)) none := by kernel_rfl
@[simp] theorem fa_43_3 (c0 c1 c2 c3 c4 c5 : Value) : rdFieldAddr P 43 (some (eptrV (.agg ⟨[c0, c1, c2, c3, c4, c5]⟩))) 3 = optK (bif oneCell c3 then some c3 else none) (fun x => some (eptrV x)) none := by kernel_rfl
@[simp] theorem fa_43_4 (c0 c1 c2 c3 c4 c5 : Value) : rdFieldAddr P 43 (some (eptrV (.agg ⟨[c0, c1, c2, c3, c4, c5]⟩))) 4 = optK (bif oneCell c4 then some c4 else none) (fun x => some (eptrV x)) none := by kernel_rfl
@[simp] theorem fa_43_5 (c0 c1 c2 c3 c4 c5 : Value) : rdFieldAddr P 43 (some (eptrV (.agg ⟨[c0, c1, c2, c3, c4, c5]⟩))) 5 = optK (bif oneCell c5 then some c5 else none) (fun x => some (eptrV x)) none := by kernel_rfl
@[simp] theorem fa_58_0 (c0 c1 c2 c3 c4 c5 c6 c7 : Value) : rdFieldAddr P 58 (some (eptrV (.agg ⟨[c0, c1, c2, c3, c4, c5, c6, c7]⟩))) 0 = optK (bif oneCell c0 then some c0 else none) (fun x => some (eptrV x)) none := by kernel_rfl
@[simp] theorem fa_58_1 (c0 c1 c2 c3 c4 c5 c6 c7 : Value) : rdFieldAddr P 58 (some (eptrV (.agg ⟨[c0, c1, c2, c3, c4, c5, c6, c7]⟩))) 1 = some (eptrV (.agg ⟨[c1, c2, c3, c4, c5, c6]⟩)) := by kernel_rfl
@[simp] theorem fa_58_2 (c0 c1 c2 c3 c4 c5 c6 c7 : Value) : rdFieldAddr P 58 (some (eptrV (.agg ⟨[c0, c1, c2, c3, c4, c5, c6, c7]⟩))) 2 = optK (bif oneCell c7 then some c7 else none) (fun x => some (eptrV x)) none := by kernel_rfl
@[simp] theorem fa_62_0 (c0 c1 c2 c3 c4 : Value) : rdFieldAddr P 62 (some (eptrV (.agg ⟨[c0, c1, c2, c3, c4]⟩))) 0 = optK (bif oneCell c0 then some c0 else none) (fun x => some (eptrV x)) none := by kernel_rfl
@[simp] theorem fa_62_1 (c0 c1 c2 c3 c4 : Value) : rdFieldAddr P 62 (some (eptrV (.agg ⟨[c0, c1, c2, c3, c4]⟩))) 1 = optK (bif oneCell c1 then some c1 else none) (fun x => some (eptrV x)) none := by kernel_rfl
@[simp] theorem fa_62_2 (c0 c1 c2 c3 c4 : Value) : rdFieldAddr P 62 (some (eptrV (.agg ⟨[c0, c1, c2, c3, c4]⟩))) 2 = optK (bif oneCell c2 then some c2 else none) (fun x => some (eptrV x)) none := by kernel_rfl
@[simp] theorem fa_62_3 (c0 c1 c2 c3 c4 : Value) : rdFieldAddr P 62 (some (eptrV (.agg ⟨[c0, c1, c2, c3, c4]⟩))) 3 = optK (bif oneCell c3 then some c3 else none) (fun x => some (eptrV x)) none := by kernel_rfl
@[simp] theorem fa_62_4 (c0 c1 c2 c3 c4 : Value) : rdFieldAddr P 62 (some (eptrV (.agg ⟨[c0, c1, c2, c3, c4]⟩))) 4 = optK (bif oneCell c4 then some c4 else none) (fun x => some (eptrV x)) none := by kernel_rfl
@[simp] theorem fa_101_0 (c0 c1 : Value) : rdFieldAddr P 101 (some (eptrV (.agg ⟨[c0, c1]⟩))) 0 = optK (bif oneCell c0 then some c0 else none) (fun x => some (eptrV x)) none := by kernel_rfl
@[simp] theorem fa_101_1 (c0 c1 : Value) : rdFieldAddr P 101 (some (eptrV (.agg ⟨[c0, c1]⟩))) 1 = optK (bif oneCell c1 then some c1 else none) (fun x => some (eptrV x)) none := by kernel_rfl
@[simp] theorem fp_26_0 (b : Nat) : rdFieldAddr P 26 (some (.pointer (some ⟨b, 0, none⟩))) 0 = some (.pointer (some ⟨b, 0, none⟩)) := by kernel_rfl
@[simp] theorem fp_26_1 (b : Nat) : rdFieldAddr P 26 (some (.pointer (some ⟨b, 0, none⟩))) 1 = some (.pointer (some ⟨b, 1, none⟩)) := by kernel_rfl
@[simp] theorem fp_26_2 (b : Nat) : rdFieldAddr P 26 (some (.pointer (some ⟨b, 0, none⟩))) 2 = some (.pointer (some ⟨b, 2, none⟩)) := by kernel_rfl
@[simp] theorem fp_26_3 (b : Nat) : rdFieldAddr P 26 (some (.pointer (some ⟨b, 0, none⟩))) 3 = some (.pointer (some ⟨b, 3, none⟩)) := by kernel_rfl
@[simp] theorem fp_31_0 (b : Nat) : rdFieldAddr P 31 (some (.pointer (some ⟨b, 0, none⟩))) 0 = some (.pointer (some ⟨b, 0, none⟩)) := by kernel_rfl
@[simp] theorem fp_31_1 (b : Nat) : rdFieldAddr P 31 (some (.pointer (some ⟨b, 0, none⟩))) 1 = some (.pointer (some ⟨b, 1, none⟩)) := by kernel_rfl
@[simp] theorem fp_31_2 (b : Nat) : rdFieldAddr P 31 (some (.pointer (some ⟨b, 0, none⟩))) 2 = some (.pointer (some ⟨b, 2, none⟩)) := by kernel_rfl
@[simp] theorem fp_31_3 (b : Nat) : rdFieldAddr P 31 (some (.pointer (some ⟨b, 0, none⟩))) 3 = some (.pointer (some ⟨b, 3, none⟩)) := by kernel_rfl
@[simp] theorem fp_33_0 (b : Nat) : rdFieldAddr P 33 (some (.pointer (some ⟨b, 0, none⟩))) 0 = some (.pointer (some ⟨b, 0, none⟩)) := by kernel_rfl
@[simp] theorem fp_33_1 (b : Nat) : rdFieldAddr P 33 (some (.pointer (some ⟨b, 0, none⟩))) 1 = some (.pointer (some ⟨b, 1, none⟩)) := by kernel_rfl
@[simp] theorem fp_33_2 (b : Nat) : rdFieldAddr P 33 (some (.pointer (some ⟨b, 0, none⟩))) 2 = some (.pointer (some ⟨b, 2, none⟩)) := by kernel_rfl
@[simp] theorem fp_43_0 (b : Nat) : rdFieldAddr P 43 (some (.pointer (some ⟨b, 0, none⟩))) 0 = some (.pointer (some ⟨b, 0, none⟩)) := by kernel_rfl
@[simp] theorem fp_43_1 (b : Nat) : rdFieldAddr P 43 (some (.pointer (some ⟨b, 0, none⟩))) 1 = some (.pointer (some ⟨b, 1, none⟩)) := by kernel_rfl
@[simp] theorem fp_43_2 (b : Nat) : rdFieldAddr P 43 (some (.pointer (some ⟨b, 0, none⟩))) 2 = some (.pointer (some ⟨b, 2, none⟩)) := by kernel_rfl
@[simp] theorem fp_43_3 (b : Nat) : rdFieldAddr P 43 (some (.pointer (some ⟨b, 0, none⟩))) 3 = some (.pointer (some ⟨b, 3, none⟩)) := by kernel_rfl
@[simp] theorem fp_43_4 (b : Nat) : rdFieldAddr P 43 (some (.pointer (some ⟨b, 0, none⟩))) 4 = some (.pointer (some ⟨b, 4, none⟩)) := by kernel_rfl
@[simp] theorem fp_43_5 (b : Nat) : rdFieldAddr P 43 (some (.pointer (some ⟨b, 0, none⟩))) 5 = some (.pointer (some ⟨b, 5, none⟩)) := by kernel_rfl
@[simp] theorem fp_62_0 (b : Nat) : rdFieldAddr P 62 (some (.pointer (some ⟨b, 0, none⟩))) 0 = some (.pointer (some ⟨b, 0, none⟩)) := by kernel_rfl
@[simp] theorem fp_62_1 (b : Nat) : rdFieldAddr P 62 (some (.pointer (some ⟨b, 0, none⟩))) 1 = some (.pointer (some ⟨b, 1, none⟩)) := by kernel_rfl
@[simp] theorem fp_62_2 (b : Nat) : rdFieldAddr P 62 (some (.pointer (some ⟨b, 0, none⟩))) 2 = some (.pointer (some ⟨b, 2, none⟩)) := by kernel_rfl
@[simp] theorem fp_62_3 (b : Nat) : rdFieldAddr P 62 (some (.pointer (some ⟨b, 0, none⟩))) 3 = some (.pointer (some ⟨b, 3, none⟩)) := by kernel_rfl
@[simp] theorem fp_62_4 (b : Nat) : rdFieldAddr P 62 (some (.pointer (some ⟨b, 0, none⟩))) 4 = some (.pointer (some ⟨b, 4, none⟩)) := by kernel_rfl
theorem fpo_26_0 (b o : Nat) : rdFieldAddr P 26 (some (.pointer (some ⟨b, o, none⟩))) 0 = some (.pointer (some ⟨b, o + 0, none⟩)) := rdFA_ptr (by kernel_rfl)
theorem fpo_26_1 (b o : Nat) : rdFieldAddr P 26 (some (.pointer (some ⟨b, o, none⟩))) 1 = some (.pointer (some ⟨b, o + 1, none⟩)) := rdFA_ptr (by kernel_rfl)
theorem fpo_26_2 (b o : Nat) : rdFieldAddr P 26 (some (.pointer (some ⟨b, o, none⟩))) 2 = some (.pointer (some ⟨b, o + 2, none⟩)) := rdFA_ptr (by kernel_rfl)
theorem fpo_26_3 (b o : Nat) : rdFieldAddr P 26 (some (.pointer (some ⟨b, o, none⟩))) 3 = some (.pointer (some ⟨b, o + 3, none⟩)) := rdFA_ptr (by kernel_rfl)
theorem fpo_31_0 (b o : Nat) : rdFieldAddr P 31 (some (.pointer (some ⟨b, o, none⟩))) 0 = some (.pointer (some ⟨b, o + 0, none⟩)) := rdFA_ptr (by kernel_rfl)
theorem fpo_31_1 (b o : Nat) : rdFieldAddr P 31 (some (.pointer (some ⟨b, o, none⟩))) 1 = some (.pointer (some ⟨b, o + 1, none⟩)) := rdFA_ptr (by kernel_rfl)
theorem fpo_31_2 (b o : Nat) : rdFieldAddr P 31 (some (.pointer (some ⟨b, o, none⟩))) 2 = some (.pointer (some ⟨b, o + 2, none⟩)) := rdFA_ptr (by kernel_rfl)
theorem fpo_31_3 (b o : Nat) : rdFieldAddr P 31 (some (.pointer (some ⟨b, o, none⟩))) 3 = some (.pointer (some ⟨b, o + 3, none⟩)) := rdFA_ptr (by kernel_rfl)
theorem fpo_33_0 (b o : Nat) : rdFieldAddr P 33 (some (.pointer (some ⟨b, o, none⟩))) 0 = some (.pointer (some ⟨b, o + 0, none⟩)) := rdFA_ptr (by kernel_rfl)
theorem fpo_33_1 (b o : Nat) : rdFieldAddr P 33 (some (.pointer (some ⟨b, o, none⟩))) 1 = some (.pointer (some ⟨b, o + 1, none⟩)) := rdFA_ptr (by kernel_rfl)
theorem fpo_33_2 (b o : Nat) : rdFieldAddr P 33 (some (.pointer (some ⟨b, o, none⟩))) 2 = some (.pointer (some ⟨b, o + 2, none⟩)) := rdFA_ptr (by kernel_rfl)
theorem fpo_43_0 (b o : Nat) : rdFieldAddr P 43 (some (.pointer (some ⟨b, o, none⟩))) 0 = some (.pointer (some ⟨b, o + 0, none⟩)) := rdFA_ptr (by kernel_rfl)
theorem fpo_43_1 (b o : Nat) : rdFieldAddr P 43 (some (.pointer (some ⟨b, o, none⟩))) 1 = some (.pointer (some ⟨b, o + 1, none⟩)) := rdFA_ptr (by kernel_rfl)
theorem fpo_43_2 (b o : Nat) : rdFieldAddr P 43 (some (.pointer (some ⟨b, o, none⟩))) 2 = some (.pointer (some ⟨b, o + 2, none⟩)) := rdFA_ptr (by kernel_rfl)
theorem fpo_43_3 (b o : Nat) : rdFieldAddr P 43 (some (.pointer (some ⟨b, o, none⟩))) 3 = some (.pointer (some ⟨b, o + 3, none⟩)) := rdFA_ptr (by kernel_rfl)
theorem fpo_43_4 (b o : Nat) : rdFieldAddr P 43 (some (.pointer (some ⟨b, o, none⟩))) 4 = some (.pointer (some ⟨b, o + 4, none⟩)) := rdFA_ptr (by kernel_rfl)
theorem fpo_43_5 (b o : Nat) : rdFieldAddr P 43 (some (.pointer (some ⟨b, o, none⟩))) 5 = some (.pointer (some ⟨b, o + 5, none⟩)) := rdFA_ptr (by kernel_rfl)
theorem fpo_58_0 (b o : Nat) : rdFieldAddr P 58 (some (.pointer (some ⟨b, o, none⟩))) 0 = some (.pointer (some ⟨b, o + 0, none⟩)) := rdFA_ptr (by kernel_rfl)
theorem fpo_58_1 (b o : Nat) : rdFieldAddr P 58 (some (.pointer (some ⟨b, o, none⟩))) 1 = some (.pointer (some ⟨b, o + 1, none⟩)) := rdFA_ptr (by kernel_rfl)
theorem fpo_58_2 (b o : Nat) : rdFieldAddr P 58 (some (.pointer (some ⟨b, o, none⟩))) 2 = some (.pointer (some ⟨b, o + 7, none⟩)) := rdFA_ptr (by kernel_rfl)
theorem fpo_62_0 (b o : Nat) : rdFieldAddr P 62 (some (.pointer (some ⟨b, o, none⟩))) 0 = some (.pointer (some ⟨b, o + 0, none⟩)) := rdFA_ptr (by kernel_rfl)
theorem fpo_62_1 (b o : Nat) : rdFieldAddr P 62 (some (.pointer (some ⟨b, o, none⟩))) 1 = some (.pointer (some ⟨b, o + 1, none⟩)) := rdFA_ptr (by kernel_rfl)
theorem fpo_62_2 (b o : Nat) : rdFieldAddr P 62 (some (.pointer (some ⟨b, o, none⟩))) 2 = some (.pointer (some ⟨b, o + 2, none⟩)) := rdFA_ptr (by kernel_rfl)
theorem fpo_62_3 (b o : Nat) : rdFieldAddr P 62 (some (.pointer (some ⟨b, o, none⟩))) 3 = some (.pointer (some ⟨b, o + 3, none⟩)) := rdFA_ptr (by kernel_rfl)
theorem fpo_62_4 (b o : Nat) : rdFieldAddr P 62 (some (.pointer (some ⟨b, o, none⟩))) 4 = some (.pointer (some ⟨b, o + 4, none⟩)) := rdFA_ptr (by kernel_rfl)
theorem fpo_101_0 (b o : Nat) : rdFieldAddr P 101 (some (.pointer (some ⟨b, o, none⟩))) 0 = some (.pointer (some ⟨b, o + 0, none⟩)) := rdFA_ptr (by kernel_rfl)
theorem fpo_101_1 (b o : Nat) : rdFieldAddr P 101 (some (.pointer (some ⟨b, o, none⟩))) 1 = some (.pointer (some ⟨b, o + 1, none⟩)) := rdFA_ptr (by kernel_rfl)
@[simp] theorem ld_2 (H : T OB) (u : Value) : rdLoad P H 2 (some (eptrV u)) = ldV (some false) (some 1) u := by kernel_rfl
@[simp] theorem ld_3 (H : T OB) (u : Value) : rdLoad P H 3 (some (eptrV u)) = ldV (some false) (some 1) u := by kernel_rfl
@[simp] theorem ld_9 (H : T OB) (u : Value) : rdLoad P H 9 (some (eptrV u)) = ldV (some false) (some 1) u := by kernel_rfl
@[simp] theorem ld_22 (H : T OB) (u : Value) : rdLoad P H 22 (some (eptrV u)) = ldV (some false) (some 1) u := by kernel_rfl
@[simp] theorem ld_26 (H : T OB) (c0 c1 c2 c3 : Value) : rdLoad P H 26 (some (eptrV (.agg ⟨[c0, c1, c2, c3]⟩))) = some (.agg ⟨[c0, c1, c2, c3]⟩) := by kernel_rfl
@[simp] theorem ld_27 (H : T OB) (u : Value) : rdLoad P H 27 (some (eptrV u)) = ldV (some false) (some 1) u := by kernel_rfl
@[simp] theorem ld_28 (H : T OB) (u : Value) : rdLoad P H 28 (some (eptrV u)) = ldV (some false) (some 1) u := by kernel_rfl
@[simp] theorem ld_29 (H : T OB) (u : Value) : rdLoad P H 29 (some (eptrV u)) = ldV (some false) (some 1) u := by kernel_rfl
@[simp] theorem ld_31 (H : T OB) (c0 c1 c2 c3 : Value) : rdLoad P H 31 (some (eptrV (.agg ⟨[c0, c1, c2, c3]⟩))) = some (.agg ⟨[c0, c1, c2, c3]⟩) := by kernel_rfl
@[simp] theorem ld_33 (H : T OB) (c0 c1 c2 c3 c4 c5 : Value) : rdLoad P H 33 (some (eptrV (.agg ⟨[c0, c1, c2, c3, c4, c5]⟩))) = some (.agg ⟨[c0, c1, c2, c3, c4, c5]⟩) := by kernel_rfl
@[simp] theorem ld_40 (H : T OB) (u : Value) : rdLoad P H 40 (some (eptrV u)) = ldV (some false) (some 1) u := by kernel_rfl
@[simp] theorem ld_41 (H : T OB) (u : Value) : rdLoad P H 41 (some (eptrV u)) = ldV (some false) (some 1) u := by kernel_rfl
@[simp] theorem ld_43 (H : T OB) (c0 c1 c2 c3 c4 c5 : Value) : rdLoad P H 43 (some (eptrV (.agg ⟨[c0, c1, c2, c3, c4, c5]⟩))) = some (.agg ⟨[c0, c1, c2, c3, c4, c5]⟩) := by kernel_rfl
@[simp] theorem ld_62 (H : T OB) (c0 c1 c2 c3 c4 : Value) : rdLoad P H 62 (some (eptrV (.agg ⟨[c0, c1, c2, c3, c4]⟩))) = some (.agg ⟨[c0, c1, c2, c3, c4]⟩) := by kernel_rfl
@[simp] theorem ld_97 (H : T OB) (u : Value) : rdLoad P H 97 (some (eptrV u)) = ldV (some false) (some 1) u := by kernel_rfl
theorem ix_22 {es : List Value} {i : Nat} {u : Value} (h : es[i]? = some u) (k : IntKind) : rdIndexAddr P 22 (some (rowV 6 es)) (some (.int k (i : Int))) = some (eptrV u) := rdIndex_row (by kernel_rfl) h k
theorem ix_27 {es : List Value} {i : Nat} {u : Value} (h : es[i]? = some u) (k : IntKind) : rdIndexAddr P 27 (some (rowV 4 es)) (some (.int k (i : Int))) = some (eptrV u) := rdIndex_row (by kernel_rfl) h k
theorem ix_28 {es : List Value} {i : Nat} {u : Value} (h : es[i]? = some u) (k : IntKind) : rdIndexAddr P 28 (some (rowV 5 es)) (some (.int k (i : Int))) = some (eptrV u) := rdIndex_row (by kernel_rfl) h k
theorem ix_29 {es : List Value} {i : Nat} {u : Value} (h : es[i]? = some u) (k : IntKind) : rdIndexAddr P 29 (some (rowV 4 es)) (some (.int k (i : Int))) = some (eptrV u) := rdIndex_row (by kernel_rfl) h k
theorem ix_40 {es : List Value} {i : Nat} {u : Value} (h : es[i]? = some u) (k : IntKind) : rdIndexAddr P 40 (some (rowV 1 es)) (some (.int k (i : Int))) = some (eptrV u) := rdIndex_row (by kernel_rfl) h k
theorem ix_41 {es : List Value} {i : Nat} {u : Value} (h : es[i]? = some u) (k : IntKind) : rdIndexAddr P 41 (some (rowV 6 es)) (some (.int k (i : Int))) = some (eptrV u) := rdIndex_row (by kernel_rfl) h k
theorem ixs_22 {b off len c i : Nat} (h : i < len) (k : IntKind) : rdIndexAddr P 22 (some (.slice (some ⟨b, off, none⟩) len c)) (some (.int k (i : Int))) = some (.pointer (some ⟨b, off + i * 6, none⟩)) := rdIndex_sl (by kernel_rfl) h k
theorem ixs_27 {b off len c i : Nat} (h : i < len) (k : IntKind) : rdIndexAddr P 27 (some (.slice (some ⟨b, off, none⟩) len c)) (some (.int k (i : Int))) = some (.pointer (some ⟨b, off + i * 4, none⟩)) := rdIndex_sl (by kernel_rfl) h k
theorem ixs_28 {b off len c i : Nat} (h : i < len) (k : IntKind) : rdIndexAddr P 28 (some (.slice (some ⟨b, off, none⟩) len c)) (some (.int k (i : Int))) = some (.pointer (some ⟨b, off + i * 5, none⟩)) := rdIndex_sl (by kernel_rfl) h k
theorem ixs_29 {b off len c i : Nat} (h : i < len) (k : IntKind) : rdIndexAddr P 29 (some (.slice (some ⟨b, off, none⟩) len c)) (some (.int k (i : Int))) = some (.pointer (some ⟨b, off + i * 4, none⟩)) := rdIndex_sl (by kernel_rfl) h k
theorem ixs_40 {b off len c i : Nat} (h : i < len) (k : IntKind) : rdIndexAddr P 40 (some (.slice (some ⟨b, off, none⟩) len c)) (some (.int k (i : Int))) = some (.pointer (some ⟨b, off + i * 1, none⟩)) := rdIndex_sl (by kernel_rfl) h k
theorem ixs_41 {b off len c i : Nat} (h : i < len) (k : IntKind) : rdIndexAddr P 41 (some (.slice (some ⟨b, off, none⟩) len c)) (some (.int k (i : Int))) = some (.pointer (some ⟨b, off + i * 6, none⟩)) := rdIndex_sl (by kernel_rfl) h k
theorem und_22 : P.underlying 22 = some (.slice 33) := by kernel_rfl
theorem und_27 : P.underlying 27 = some (.slice 26) := by kernel_rfl
theorem und_28 : P.underlying 28 = some (.slice 62) := by kernel_rfl
theorem und_29 : P.underlying 29 = some (.slice 31) := by kernel_rfl
theorem und_40 : P.underlying 40 = some (.slice 3) := by kernel_rfl
theorem und_41 : P.underlying 41 = some (.slice 43) := by kernel_rfl
theorem und_73 : P.underlying 73 = some (.slice 72) := by kernel_rfl
theorem und_74 : P.underlying 74 = some (.slice 53) := by kernel_rfl
theorem und_75 : P.underlying 75 = some (.slice 88) := by kernel_rfl
theorem und_76 : P.underlying 76 = some (.slice 189) := by kernel_rfl
theorem und_80 : P.underlying 80 = some (.slice 191) := by kernel_rfl
theorem und_81 : P.underlying 81 = some (.slice 84) := by kernel_rfl
theorem und_82 : P.underlying 82 = some (.slice 200) := by kernel_rfl
theorem und_91 : P.underlying 91 = some (.slice 5) := by kernel_rfl
theorem und_122 : P.underlying 122 = some (.slice 9) := by kernel_rfl
theorem und_142 : P.underlying 142 = some (.slice 144) := by kernel_rfl
theorem und_185 : P.underlying 185 = some (.slice 187) := by kernel_rfl
theorem und_192 : P.underlying 192 = some (.slice 86) := by kernel_rfl
theorem und_193 : P.underlying 193 = some (.slice 198) := by kernel_rfl
theorem und_196 : P.underlying 196 = some (.slice 203) := by kernel_rfl
@[simp] theorem len_9 (s : ByteArray) (ty : TypeId) : rdLen P #[9] ty (some [.string s]) = some (.int .i64 (s.size : Int)) := rdLen_str s (by kernel_rfl)
@[simp] theorem len_22 (s : Nat) (es : List Value) (ty : TypeId) : rdLen P #[22] ty (some [rowV s es]) = some (.int .i64 (es.length : Int)) := rdLen_row s es (by kernel_rfl)
@[simp] theorem lenS_22 (ty : TypeId) (a : Addr) (n c : Nat) : rdLen P #[22] ty (some [.slice (some a) n c]) = some (.int .i64 (n : Int)) := rdLen_sl (by kernel_rfl)
@[simp] theorem lenN_22 (ty : TypeId) : rdLen P #[22] ty (some [.slice none 0 0]) = some (.int .i64 0) := by kernel_rfl
@[simp] theorem len_27 (s : Nat) (es : List Value) (ty : TypeId) : rdLen P #[27] ty (some [rowV s es]) = some (.int .i64 (es.length : Int)) := rdLen_row s es (by kernel_rfl)
@[simp] theorem lenS_27 (ty : TypeId) (a : Addr) (n c : Nat) : rdLen P #[27] ty (some [.slice (some a) n c]) = some (.int .i64 (n : Int)) := rdLen_sl (by kernel_rfl)
@[simp] theorem lenN_27 (ty : TypeId) : rdLen P #[27] ty (some [.slice none 0 0]) = some (.int .i64 0) := by kernel_rfl
@[simp] theorem len_28 (s : Nat) (es : List Value) (ty : TypeId) : rdLen P #[28] ty (some [rowV s es]) = some (.int .i64 (es.length : Int)) := rdLen_row s es (by kernel_rfl)
@[simp] theorem lenS_28 (ty : TypeId) (a : Addr) (n c : Nat) : rdLen P #[28] ty (some [.slice (some a) n c]) = some (.int .i64 (n : Int)) := rdLen_sl (by kernel_rfl)
@[simp] theorem lenN_28 (ty : TypeId) : rdLen P #[28] ty (some [.slice none 0 0]) = some (.int .i64 0) := by kernel_rfl
@[simp] theorem len_29 (s : Nat) (es : List Value) (ty : TypeId) : rdLen P #[29] ty (some [rowV s es]) = some (.int .i64 (es.length : Int)) := rdLen_row s es (by kernel_rfl)
@[simp] theorem lenS_29 (ty : TypeId) (a : Addr) (n c : Nat) : rdLen P #[29] ty (some [.slice (some a) n c]) = some (.int .i64 (n : Int)) := rdLen_sl (by kernel_rfl)
@[simp] theorem lenN_29 (ty : TypeId) : rdLen P #[29] ty (some [.slice none 0 0]) = some (.int .i64 0) := by kernel_rfl
@[simp] theorem len_40 (s : Nat) (es : List Value) (ty : TypeId) : rdLen P #[40] ty (some [rowV s es]) = some (.int .i64 (es.length : Int)) := rdLen_row s es (by kernel_rfl)
@[simp] theorem lenS_40 (ty : TypeId) (a : Addr) (n c : Nat) : rdLen P #[40] ty (some [.slice (some a) n c]) = some (.int .i64 (n : Int)) := rdLen_sl (by kernel_rfl)
@[simp] theorem lenN_40 (ty : TypeId) : rdLen P #[40] ty (some [.slice none 0 0]) = some (.int .i64 0) := by kernel_rfl
@[simp] theorem len_41 (s : Nat) (es : List Value) (ty : TypeId) : rdLen P #[41] ty (some [rowV s es]) = some (.int .i64 (es.length : Int)) := rdLen_row s es (by kernel_rfl)
@[simp] theorem lenS_41 (ty : TypeId) (a : Addr) (n c : Nat) : rdLen P #[41] ty (some [.slice (some a) n c]) = some (.int .i64 (n : Int)) := rdLen_sl (by kernel_rfl)
@[simp] theorem lenN_41 (ty : TypeId) : rdLen P #[41] ty (some [.slice none 0 0]) = some (.int .i64 0) := by kernel_rfl
theorem zero_26 : zeroC P 26 = some [(.int .i64 0), (.int .i64 0), (.int .i64 0), (.string ⟨⟨[]⟩⟩)] := by kernel_rfl
theorem zero_31 : zeroC P 31 = some [(.slice none 0 0), (.int .i64 0), (.slice none 0 0), (.slice none 0 0)] := by kernel_rfl
theorem zero_33 : zeroC P 33 = some [(.int .i64 0), (.int .i64 0), (.slice none 0 0), (.int .i64 0), (.slice none 0 0), (.slice none 0 0)] := by kernel_rfl
theorem zero_43 : zeroC P 43 = some [(.int .i64 0), (.int .i64 0), (.int .i64 0), (.string ⟨⟨[]⟩⟩), (.slice none 0 0), (.slice none 0 0)] := by kernel_rfl
theorem zero_62 : zeroC P 62 = some [(.int .i64 0), (.int .i64 0), (.int .i64 0), (.slice none 0 0), (.slice none 0 0)] := by kernel_rfl
theorem agg_2 : aggQ P 2 = some false := by kernel_rfl
theorem agg_3 : aggQ P 3 = some false := by kernel_rfl
theorem agg_9 : aggQ P 9 = some false := by kernel_rfl
theorem agg_22 : aggQ P 22 = some false := by kernel_rfl
theorem agg_26 : aggQ P 26 = some true := by kernel_rfl
theorem agg_27 : aggQ P 27 = some false := by kernel_rfl
theorem agg_28 : aggQ P 28 = some false := by kernel_rfl
theorem agg_29 : aggQ P 29 = some false := by kernel_rfl
theorem agg_31 : aggQ P 31 = some true := by kernel_rfl
theorem agg_33 : aggQ P 33 = some true := by kernel_rfl
theorem agg_40 : aggQ P 40 = some false := by kernel_rfl
theorem agg_41 : aggQ P 41 = some false := by kernel_rfl
theorem agg_43 : aggQ P 43 = some true := by kernel_rfl
theorem agg_62 : aggQ P 62 = some true := by kernel_rfl
theorem agg_97 : aggQ P 97 = some false := by kernel_rfl
theorem sz_2 : szOf P 2 = some 1 := by kernel_rfl
theorem sz_3 : szOf P 3 = some 1 := by kernel_rfl
theorem sz_9 : szOf P 9 = some 1 := by kernel_rfl
theorem sz_22 : szOf P 22 = some 1 := by kernel_rfl
theorem sz_26 : szOf P 26 = some 4 := by kernel_rfl
theorem sz_27 : szOf P 27 = some 1 := by kernel_rfl
theorem sz_28 : szOf P 28 = some 1 := by kernel_rfl
theorem sz_29 : szOf P 29 = some 1 := by kernel_rfl
theorem sz_31 : szOf P 31 = some 4 := by kernel_rfl
theorem sz_33 : szOf P 33 = some 6 := by kernel_rfl
theorem sz_40 : szOf P 40 = some 1 := by kernel_rfl
theorem sz_41 : szOf P 41 = some 1 := by kernel_rfl
theorem sz_43 : szOf P 43 = some 6 := by kernel_rfl
theorem sz_62 : szOf P 62 = some 5 := by kernel_rfl
theorem sz_97 : szOf P 97 = some 1 := by kernel_rfl
@[simp] theorem pneq_97 (H : T OB) (q : Bool) (u : Value) : rdBin P H .neq 97 q (some (eptrV u)) (some (.pointer none)) = some (.bool true) := by kernel_rfl
@[simp] theorem pneq0_97 (H : T OB) (q : Bool) : rdBin P H .neq 97 q (some (.pointer none)) (some (.pointer none)) = some (.bool false) := by cases q <;> kernel_rfl
end
end Go.Proofs.YtfdgoenmdalphaaDoor
