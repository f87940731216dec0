/- What the types are that the functions name. -/
import Derived.Test.YtfdgoenmdalphaaGreatDoorRa0
import Derived.KernelRfl
import Derived.Test.YtfdgoenmdalphaaGreatDoorQQ
namespace Go.Proofs.YtfdgoenmdalphaaGreatDoor
open Go.Ev Go.RowKit
noncomputable section
@[simp] theorem fa_25_0 (c0 c1 c2 c3 c4 c5 : Value) : rdFieldAddr P 25 (some (eptrV (.agg ⟨[c0, c1, c2, c3, c4, c5]⟩))) 0 = optK (bif oneCell c0 then some c0 else none) (fun x => some (eptrV x)) none := by kernel_rfl
@[simp] theorem fa_25_1 (c0 c1 c2 c3 c4 c5 : Value) : rdFieldAddr P 25 (some (eptrV (.agg ⟨[c0, c1, c2, c3, c4, c5]⟩))) 1 = optK (bif oneCell c1 then some c1 else none) (fun x => some (eptrV x)) none := by kernel_rfl
@[simp] theorem fa_25_2 (c0 c1 c2 c3 c4 c5 : Value) : rdFieldAddr P 25 (some (eptrV (.agg ⟨[c0, c1, c2, c3, c4, c5]⟩))) 2 = optK (bif oneCell c2 then some c2 else none) (fun x => some (eptrV x)) none := by kernel_rfl
@[simp] theorem fa_25_3 (c0 c1 c2 c3 c4 c5 : Value) : rdFieldAddr P 25 (some (eptrV (.agg ⟨[c0, c1, c2, c3, c4, c5]⟩))) 3 = optK (bif oneCell c3 then some c3 else none) (fun x => some (eptrV x)) none := by kernel_rfl
@[simp] theorem fa_25_4 (c0 c1 c2 c3 c4 c5 : Value) : rdFieldAddr P 25 (some (eptrV (.agg ⟨[c0, c1, c2, c3, c4, c5]⟩))) 4 = optK (bif oneCell c4 then some c4 else none) (fun x => some (eptrV x)) none := by kernel_rfl
@[simp] theorem fa_25_5 (c0 c1 c2 c3 c4 c5 : Value) : rdFieldAddr P 25 (some (eptrV (.agg ⟨[c0, c1, c2, c3, c4, c5]⟩))) 5 = optK (bif oneCell c5 then some c5 else none) (fun x => some (eptrV x)) none := by kernel_rfl
@[simp] theorem fa_67_0 (c0 c1 c2 c3 : Value) : rdFieldAddr P 67 (some (eptrV (.agg ⟨[c0, c1, c2, c3]⟩))) 0 = optK (bif oneCell c0 then some c0 else none) (fun x => some (eptrV x)) none := by kernel_rfl
@[simp] theorem fa_67_1 (c0 c1 c2 c3 : Value) : rdFieldAddr P 67 (some (eptrV (.agg ⟨[c0, c1, c2, c3]⟩))) 1 = optK (bif oneCell c1 then some c1 else none) (fun x => some (eptrV x)) none := by kernel_rfl
@[simp] theorem fa_67_2 (c0 c1 c2 c3 : Value) : rdFieldAddr P 67 (some (eptrV (.agg ⟨[c0, c1, c2, c3]⟩))) 2 = optK (bif oneCell c2 then some c2 else none) (fun x => some (eptrV x)) none := by kernel_rfl
@[simp] theorem fa_67_3 (c0 c1 c2 c3 : Value) : rdFieldAddr P 67 (some (eptrV (.agg ⟨[c0, c1, c2, c3]⟩))) 3 = optK (bif oneCell c3 then some c3 else none) (fun x => some (eptrV x)) none := by kernel_rfl
@[simp] theorem fa_69_0 (c0 c1 c2 c3 c4 c5 : Value) : rdFieldAddr P 69 (some (eptrV (.agg ⟨[c0, c1, c2, c3, c4, c5]⟩))) 0 = optK (bif oneCell c0 then some c0 else none) (fun x => some (eptrV x)) none := by kernel_rfl
@[simp] theorem fa_69_1 (c0 c1 c2 c3 c4 c5 : Value) : rdFieldAddr P 69 (some (eptrV (.agg ⟨[c0, c1, c2, c3, c4, c5]⟩))) 1 = optK (bif oneCell c1 then some c1 else none) (fun x => some (eptrV x)) none := by kernel_rfl
@[simp] theorem fa_69_2 (c0 c1 c2 c3 c4 c5 : Value) : rdFieldAddr P 69 (some (eptrV (.agg ⟨[c0, c1, c2, c3, c4, c5]⟩))) 2 = some (eptrV (.agg ⟨[c2, c3, c4, c5]⟩)) := by kernel_rfl
@[simp] theorem fa_71_0 (c0 c1 c2 c3 : Value) : rdFieldAddr P 71 (some (eptrV (.agg ⟨[c0, c1, c2, c3]⟩))) 0 = optK (bif oneCell c0 then some c0 else none) (fun x => some (eptrV x)) none := by kernel_rfl
@[simp] theorem fa_71_1 (c0 c1 c2 c3 : Value) : rdFieldAddr P 71 (some (eptrV (.agg ⟨[c0, c1, c2, c3]⟩))) 1 = optK (bif oneCell c1 then some c1 else none) (fun x => some (eptrV x)) none := by kernel_rfl
@[simp] theorem fa_71_2 (c0 c1 c2 c3 : Value) : rdFieldAddr P 71 (some (eptrV (.agg ⟨[c0, c1, c2, c3]⟩))) 2 = optK (bif oneCell c2 then some c2 else none) (fun x => some (eptrV x)) none := by kernel_rfl
@[simp] theorem fa_71_3 (c0 c1 c2 c3 : Value) : rdFieldAddr P 71 (some (eptrV (.agg ⟨[c0, c1, c2, c3]⟩))) 3 = optK (bif oneCell c3 then some c3 else none) (fun x => some (eptrV x)) none := by kernel_rfl
@[simp] theorem fa_95_0 (c0 c1 c2 c3 c4 c5 c6 c7 : Value) : rdFieldAddr P 95 (some (eptrV (.agg ⟨[c0, c1, c2, c3, c4, c5, c6, c7]⟩))) 0 = optK (bif oneCell c0 then some c0 else none) (fun x => some (eptrV x)) none := by kernel_rfl
@[simp] theorem fa_95_1 (c0 c1 c2 c3 c4 c5 c6 c7 : Value) : rdFieldAddr P 95 (some (eptrV (.agg ⟨[c0, c1, c2, c3, c4, c5, c6, c7]⟩))) 1 = some (eptrV (.agg ⟨[c1, c2, c3, c4, c5, c6]⟩)) := by kernel_rfl
@[simp] theorem fa_95_2 (c0 c1 c2 c3 c4 c5 c6 c7 : Value) : rdFieldAddr P 95 (some (eptrV (.agg ⟨[c0, c1, c2, c3, c4, c5, c6, c7]⟩))) 2 = optK (bif oneCell c7 then some c7 else none) (fun x => some (eptrV x)) none := by kernel_rfl
@[simp] theorem fa_102_0 (c0 : Value) : rdFieldAddr P 102 (some (eptrV (.agg ⟨[c0]⟩))) 0 = optK (bif oneCell c0 then some c0 else none) (fun x => some (eptrV x)) none := by kernel_rfl
@[simp] theorem fa_125_0 (c0 c1 c2 c3 c4 : Value) : rdFieldAddr P 125 (some (eptrV (.agg ⟨[c0, c1, c2, c3, c4]⟩))) 0 = optK (bif oneCell c0 then some c0 else none) (fun x => some (eptrV x)) none := by kernel_rfl
@[simp] theorem fa_125_1 (c0 c1 c2 c3 c4 : Value) : rdFieldAddr P 125 (some (eptrV (.agg ⟨[c0, c1, c2, c3, c4]⟩))) 1 = optK (bif oneCell c1 then some c1 else none) (fun x => some (eptrV x)) none := by kernel_rfl
@[simp] theorem fa_125_2 (c0 c1 c2 c3 c4 : Value) : rdFieldAddr P 125 (some (eptrV (.agg ⟨[c0, c1, c2, c3, c4]⟩))) 2 = optK (bif oneCell c2 then some c2 else none) (fun x => some (eptrV x)) none := by kernel_rfl
@[simp] theorem fa_125_3 (c0 c1 c2 c3 c4 : Value) : rdFieldAddr P 125 (some (eptrV (.agg ⟨[c0, c1, c2, c3, c4]⟩))) 3 = optK (bif oneCell c3 then some c3 else none) (fun x => some (eptrV x)) none := by kernel_rfl
@[simp] theorem fa_125_4 (c0 c1 c2 c3 c4 : Value) : rdFieldAddr P 125 (some (eptrV (.agg ⟨[c0, c1, c2, c3, c4]⟩))) 4 = optK (bif oneCell c4 then some c4 else none) (fun x => some (eptrV x)) none := by kernel_rfl
@[simp] theorem fa_145_0 (c0 c1 : Value) : rdFieldAddr P 145 (some (eptrV (.agg ⟨[c0, c1]⟩))) 0 = optK (bif oneCell c0 then some c0 else none) (fun x => some (eptrV x)) none := by kernel_rfl
@[simp] theorem fa_145_1 (c0 c1 : Value) : rdFieldAddr P 145 (some (eptrV (.agg ⟨[c0, c1]⟩))) 1 = optK (bif oneCell c1 then some c1 else none) (fun x => some (eptrV x)) none := by kernel_rfl
@[simp] theorem fa_177_0 (c0 c1 c2 c3 : Value) : rdFieldAddr P 177 (some (eptrV (.agg ⟨[c0, c1, c2, c3]⟩))) 0 = optK (bif oneCell c0 then some c0 else none) (fun x => some (eptrV x)) none := by kernel_rfl
@[simp] theorem fa_177_1 (c0 c1 c2 c3 : Value) : rdFieldAddr P 177 (some (eptrV (.agg ⟨[c0, c1, c2, c3]⟩))) 1 = optK (bif oneCell c1 then some c1 else none) (fun x => some (eptrV x)) none := by kernel_rfl
@[simp] theorem fp_25_0 (b : Nat) : rdFieldAddr P 25 (some (.pointer (some ⟨b, 0, none⟩))) 0 = some (.pointer (some ⟨b, 0, none⟩)) := by kernel_rfl
@[simp] theorem fp_25_1 (b : Nat) : rdFieldAddr P 25 (some (.pointer (some ⟨b, 0, none⟩))) 1 = some (.pointer (some ⟨b, 1, none⟩)) := by kernel_rfl
@[simp] theorem fp_25_2 (b : Nat) : rdFieldAddr P 25 (some (.pointer (some ⟨b, 0, none⟩))) 2 = some (.pointer (some ⟨b, 2, none⟩)) := by kernel_rfl
@[simp] theorem fp_25_3 (b : Nat) : rdFieldAddr P 25 (some (.pointer (some ⟨b, 0, none⟩))) 3 = some (.pointer (some ⟨b, 3, none⟩)) := by kernel_rfl
@[simp] theorem fp_25_4 (b : Nat) : rdFieldAddr P 25 (some (.pointer (some ⟨b, 0, none⟩))) 4 = some (.pointer (some ⟨b, 4, none⟩)) := by kernel_rfl
@[simp] theorem fp_25_5 (b : Nat) : rdFieldAddr P 25 (some (.pointer (some ⟨b, 0, none⟩))) 5 = some (.pointer (some ⟨b, 5, none⟩)) := by kernel_rfl
@[simp] theorem fp_67_0 (b : Nat) : rdFieldAddr P 67 (some (.pointer (some ⟨b, 0, none⟩))) 0 = some (.pointer (some ⟨b, 0, none⟩)) := by kernel_rfl
@[simp] theorem fp_67_1 (b : Nat) : rdFieldAddr P 67 (some (.pointer (some ⟨b, 0, none⟩))) 1 = some (.pointer (some ⟨b, 1, none⟩)) := by kernel_rfl
@[simp] theorem fp_67_2 (b : Nat) : rdFieldAddr P 67 (some (.pointer (some ⟨b, 0, none⟩))) 2 = some (.pointer (some ⟨b, 2, none⟩)) := by kernel_rfl
@[simp] theorem fp_67_3 (b : Nat) : rdFieldAddr P 67 (some (.pointer (some ⟨b, 0, none⟩))) 3 = some (.pointer (some ⟨b, 3, none⟩)) := by kernel_rfl
@[simp] theorem fp_69_0 (b : Nat) : rdFieldAddr P 69 (some (.pointer (some ⟨b, 0, none⟩))) 0 = some (.pointer (some ⟨b, 0, none⟩)) := by kernel_rfl
@[simp] theorem fp_69_1 (b : Nat) : rdFieldAddr P 69 (some (.pointer (some ⟨b, 0, none⟩))) 1 = some (.pointer (some ⟨b, 1, none⟩)) := by kernel_rfl
@[simp] theorem fp_69_2 (b : Nat) : rdFieldAddr P 69 (some (.pointer (some ⟨b, 0, none⟩))) 2 = some (.pointer (some ⟨b, 2, none⟩)) := by kernel_rfl
@[simp] theorem fp_71_0 (b : Nat) : rdFieldAddr P 71 (some (.pointer (some ⟨b, 0, none⟩))) 0 = some (.pointer (some ⟨b, 0, none⟩)) := by kernel_rfl
@[simp] theorem fp_71_1 (b : Nat) : rdFieldAddr P 71 (some (.pointer (some ⟨b, 0, none⟩))) 1 = some (.pointer (some ⟨b, 1, none⟩)) := by kernel_rfl
@[simp] theorem fp_71_2 (b : Nat) : rdFieldAddr P 71 (some (.pointer (some ⟨b, 0, none⟩))) 2 = some (.pointer (some ⟨b, 2, none⟩)) := by kernel_rfl
@[simp] theorem fp_71_3 (b : Nat) : rdFieldAddr P 71 (some (.pointer (some ⟨b, 0, none⟩))) 3 = some (.pointer (some ⟨b, 3, none⟩)) := by kernel_rfl
@[simp] theorem fp_102_0 (b : Nat) : rdFieldAddr P 102 (some (.pointer (some ⟨b, 0, none⟩))) 0 = some (.pointer (some ⟨b, 0, none⟩)) := by kernel_rfl
@[simp] theorem fp_125_0 (b : Nat) : rdFieldAddr P 125 (some (.pointer (some ⟨b, 0, none⟩))) 0 = some (.pointer (some ⟨b, 0, none⟩)) := by kernel_rfl
@[simp] theorem fp_125_1 (b : Nat) : rdFieldAddr P 125 (some (.pointer (some ⟨b, 0, none⟩))) 1 = some (.pointer (some ⟨b, 1, none⟩)) := by kernel_rfl
@[simp] theorem fp_125_2 (b : Nat) : rdFieldAddr P 125 (some (.pointer (some ⟨b, 0, none⟩))) 2 = some (.pointer (some ⟨b, 2, none⟩)) := by kernel_rfl
@[simp] theorem fp_125_3 (b : Nat) : rdFieldAddr P 125 (some (.pointer (some ⟨b, 0, none⟩))) 3 = some (.pointer (some ⟨b, 3, none⟩)) := by kernel_rfl
@[simp] theorem fp_125_4 (b : Nat) : rdFieldAddr P 125 (some (.pointer (some ⟨b, 0, none⟩))) 4 = some (.pointer (some ⟨b, 4, none⟩)) := by kernel_rfl
@[simp] theorem fp_177_0 (b : Nat) : rdFieldAddr P 177 (some (.pointer (some ⟨b, 0, none⟩))) 0 = some (.pointer (some ⟨b, 0, none⟩)) := by kernel_rfl
@[simp] theorem fp_177_1 (b : Nat) : rdFieldAddr P 177 (some (.pointer (some ⟨b, 0, none⟩))) 1 = some (.pointer (some ⟨b, 1, none⟩)) := by kernel_rfl
@[simp] theorem fp_177_2 (b : Nat) : rdFieldAddr P 177 (some (.pointer (some ⟨b, 0, none⟩))) 2 = some (.pointer (some ⟨b, 2, none⟩)) := by kernel_rfl
@[simp] theorem fp_177_3 (b : Nat) : rdFieldAddr P 177 (some (.pointer (some ⟨b, 0, none⟩))) 3 = some (.pointer (some ⟨b, 3, none⟩)) := by kernel_rfl
theorem fpo_25_0 (b o : Nat) : rdFieldAddr P 25 (some (.pointer (some ⟨b, o, none⟩))) 0 = some (.pointer (some ⟨b, o + 0, none⟩)) := rdFA_ptr (by kernel_rfl)
theorem fpo_25_1 (b o : Nat) : rdFieldAddr P 25 (some (.pointer (some ⟨b, o, none⟩))) 1 = some (.pointer (some ⟨b, o + 1, none⟩)) := rdFA_ptr (by kernel_rfl)
theorem fpo_25_2 (b o : Nat) : rdFieldAddr P 25 (some (.pointer (some ⟨b, o, none⟩))) 2 = some (.pointer (some ⟨b, o + 2, none⟩)) := rdFA_ptr (by kernel_rfl)
theorem fpo_25_3 (b o : Nat) : rdFieldAddr P 25 (some (.pointer (some ⟨b, o, none⟩))) 3 = some (.pointer (some ⟨b, o + 3, none⟩)) := rdFA_ptr (by kernel_rfl)
theorem fpo_25_4 (b o : Nat) : rdFieldAddr P 25 (some (.pointer (some ⟨b, o, none⟩))) 4 = some (.pointer (some ⟨b, o + 4, none⟩)) := rdFA_ptr (by kernel_rfl)
theorem fpo_25_5 (b o : Nat) : rdFieldAddr P 25 (some (.pointer (some ⟨b, o, none⟩))) 5 = some (.pointer (some ⟨b, o + 5, none⟩)) := rdFA_ptr (by kernel_rfl)
theorem fpo_67_0 (b o : Nat) : rdFieldAddr P 67 (some (.pointer (some ⟨b, o, none⟩))) 0 = some (.pointer (some ⟨b, o + 0, none⟩)) := rdFA_ptr (by kernel_rfl)
theorem fpo_67_1 (b o : Nat) : rdFieldAddr P 67 (some (.pointer (some ⟨b, o, none⟩))) 1 = some (.pointer (some ⟨b, o + 1, none⟩)) := rdFA_ptr (by kernel_rfl)
theorem fpo_67_2 (b o : Nat) : rdFieldAddr P 67 (some (.pointer (some ⟨b, o, none⟩))) 2 = some (.pointer (some ⟨b, o + 2, none⟩)) := rdFA_ptr (by kernel_rfl)
theorem fpo_67_3 (b o : Nat) : rdFieldAddr P 67 (some (.pointer (some ⟨b, o, none⟩))) 3 = some (.pointer (some ⟨b, o + 3, none⟩)) := rdFA_ptr (by kernel_rfl)
theorem fpo_69_0 (b o : Nat) : rdFieldAddr P 69 (some (.pointer (some ⟨b, o, none⟩))) 0 = some (.pointer (some ⟨b, o + 0, none⟩)) := rdFA_ptr (by kernel_rfl)
theorem fpo_69_1 (b o : Nat) : rdFieldAddr P 69 (some (.pointer (some ⟨b, o, none⟩))) 1 = some (.pointer (some ⟨b, o + 1, none⟩)) := rdFA_ptr (by kernel_rfl)
theorem fpo_69_2 (b o : Nat) : rdFieldAddr P 69 (some (.pointer (some ⟨b, o, none⟩))) 2 = some (.pointer (some ⟨b, o + 2, none⟩)) := rdFA_ptr (by kernel_rfl)
theorem fpo_71_0 (b o : Nat) : rdFieldAddr P 71 (some (.pointer (some ⟨b, o, none⟩))) 0 = some (.pointer (some ⟨b, o + 0, none⟩)) := rdFA_ptr (by kernel_rfl)
theorem fpo_71_1 (b o : Nat) : rdFieldAddr P 71 (some (.pointer (some ⟨b, o, none⟩))) 1 = some (.pointer (some ⟨b, o + 1, none⟩)) := rdFA_ptr (by kernel_rfl)
theorem fpo_71_2 (b o : Nat) : rdFieldAddr P 71 (some (.pointer (some ⟨b, o, none⟩))) 2 = some (.pointer (some ⟨b, o + 2, none⟩)) := rdFA_ptr (by kernel_rfl)
theorem fpo_71_3 (b o : Nat) : rdFieldAddr P 71 (some (.pointer (some ⟨b, o, none⟩))) 3 = some (.pointer (some ⟨b, o + 3, none⟩)) := rdFA_ptr (by kernel_rfl)
theorem fpo_95_0 (b o : Nat) : rdFieldAddr P 95 (some (.pointer (some ⟨b, o, none⟩))) 0 = some (.pointer (some ⟨b, o + 0, none⟩)) := rdFA_ptr (by kernel_rfl)
theorem fpo_95_1 (b o : Nat) : rdFieldAddr P 95 (some (.pointer (some ⟨b, o, none⟩))) 1 = some (.pointer (some ⟨b, o + 1, none⟩)) := rdFA_ptr (by kernel_rfl)
theorem fpo_95_2 (b o : Nat) : rdFieldAddr P 95 (some (.pointer (some ⟨b, o, none⟩))) 2 = some (.pointer (some ⟨b, o + 7, none⟩)) := rdFA_ptr (by kernel_rfl)
theorem fpo_102_0 (b o : Nat) : rdFieldAddr P 102 (some (.pointer (some ⟨b, o, none⟩))) 0 = some (.pointer (some ⟨b, o + 0, none⟩)) := rdFA_ptr (by kernel_rfl)
theorem fpo_125_0 (b o : Nat) : rdFieldAddr P 125 (some (.pointer (some ⟨b, o, none⟩))) 0 = some (.pointer (some ⟨b, o + 0, none⟩)) := rdFA_ptr (by kernel_rfl)
theorem fpo_125_1 (b o : Nat) : rdFieldAddr P 125 (some (.pointer (some ⟨b, o, none⟩))) 1 = some (.pointer (some ⟨b, o + 1, none⟩)) := rdFA_ptr (by kernel_rfl)
theorem fpo_125_2 (b o : Nat) : rdFieldAddr P 125 (some (.pointer (some ⟨b, o, none⟩))) 2 = some (.pointer (some ⟨b, o + 2, none⟩)) := rdFA_ptr (by kernel_rfl)
theorem fpo_125_3 (b o : Nat) : rdFieldAddr P 125 (some (.pointer (some ⟨b, o, none⟩))) 3 = some (.pointer (some ⟨b, o + 3, none⟩)) := rdFA_ptr (by kernel_rfl)
theorem fpo_125_4 (b o : Nat) : rdFieldAddr P 125 (some (.pointer (some ⟨b, o, none⟩))) 4 = some (.pointer (some ⟨b, o + 4, none⟩)) := rdFA_ptr (by kernel_rfl)
theorem fpo_145_0 (b o : Nat) : rdFieldAddr P 145 (some (.pointer (some ⟨b, o, none⟩))) 0 = some (.pointer (some ⟨b, o + 0, none⟩)) := rdFA_ptr (by kernel_rfl)
theorem fpo_145_1 (b o : Nat) : rdFieldAddr P 145 (some (.pointer (some ⟨b, o, none⟩))) 1 = some (.pointer (some ⟨b, o + 1, none⟩)) := rdFA_ptr (by kernel_rfl)
theorem fpo_177_0 (b o : Nat) : rdFieldAddr P 177 (some (.pointer (some ⟨b, o, none⟩))) 0 = some (.pointer (some ⟨b, o + 0, none⟩)) := rdFA_ptr (by kernel_rfl)
theorem fpo_177_1 (b o : Nat) : rdFieldAddr P 177 (some (.pointer (some ⟨b, o, none⟩))) 1 = some (.pointer (some ⟨b, o + 1, none⟩)) := rdFA_ptr (by kernel_rfl)
@[simp] theorem ld_2 (H : T OB) (u : Value) : rdLoad P H 2 (some (eptrV u)) = ldV (some false) (some 1) u := by kernel_rfl
@[simp] theorem ld_3 (H : T OB) (u : Value) : rdLoad P H 3 (some (eptrV u)) = ldV (some false) (some 1) u := by kernel_rfl
@[simp] theorem ld_9 (H : T OB) (u : Value) : rdLoad P H 9 (some (eptrV u)) = ldV (some false) (some 1) u := by kernel_rfl
@[simp] theorem ld_22 (H : T OB) (u : Value) : rdLoad P H 22 (some (eptrV u)) = ldV (some false) (some 1) u := by kernel_rfl
@[simp] theorem ld_23 (H : T OB) (u : Value) : rdLoad P H 23 (some (eptrV u)) = ldV (some false) (some 1) u := by kernel_rfl
@[simp] theorem ld_25 (H : T OB) (c0 c1 c2 c3 c4 c5 : Value) : rdLoad P H 25 (some (eptrV (.agg ⟨[c0, c1, c2, c3, c4, c5]⟩))) = some (.agg ⟨[c0, c1, c2, c3, c4, c5]⟩) := by kernel_rfl
@[simp] theorem ld_30 (H : T OB) (u : Value) : rdLoad P H 30 (some (eptrV u)) = ldV (some false) (some 1) u := by kernel_rfl
@[simp] theorem ld_63 (H : T OB) (u : Value) : rdLoad P H 63 (some (eptrV u)) = ldV (some false) (some 1) u := by kernel_rfl
@[simp] theorem ld_64 (H : T OB) (u : Value) : rdLoad P H 64 (some (eptrV u)) = ldV (some false) (some 1) u := by kernel_rfl
@[simp] theorem ld_65 (H : T OB) (u : Value) : rdLoad P H 65 (some (eptrV u)) = ldV (some false) (some 1) u := by kernel_rfl
@[simp] theorem ld_67 (H : T OB) (c0 c1 c2 c3 : Value) : rdLoad P H 67 (some (eptrV (.agg ⟨[c0, c1, c2, c3]⟩))) = some (.agg ⟨[c0, c1, c2, c3]⟩) := by kernel_rfl
@[simp] theorem ld_69 (H : T OB) (c0 c1 c2 c3 c4 c5 : Value) : rdLoad P H 69 (some (eptrV (.agg ⟨[c0, c1, c2, c3, c4, c5]⟩))) = some (.agg ⟨[c0, c1, c2, c3, c4, c5]⟩) := by kernel_rfl
@[simp] theorem ld_71 (H : T OB) (c0 c1 c2 c3 : Value) : rdLoad P H 71 (some (eptrV (.agg ⟨[c0, c1, c2, c3]⟩))) = some (.agg ⟨[c0, c1, c2, c3]⟩) := by kernel_rfl
@[simp] theorem ld_100 (H : T OB) (u : Value) : rdLoad P H 100 (some (eptrV u)) = ldV (some false) (some 1) u := by kernel_rfl
@[simp] theorem ld_125 (H : T OB) (c0 c1 c2 c3 c4 : Value) : rdLoad P H 125 (some (eptrV (.agg ⟨[c0, c1, c2, c3, c4]⟩))) = some (.agg ⟨[c0, c1, c2, c3, c4]⟩) := by kernel_rfl
@[simp] theorem ld_141 (H : T OB) (u : Value) : rdLoad P H 141 (some (eptrV u)) = ldV (some false) (some 1) u := by kernel_rfl
@[simp] theorem ld_177 (H : T OB) (c0 c1 c2 c3 : Value) : rdLoad P H 177 (some (eptrV (.agg ⟨[c0, c1, c2, c3]⟩))) = some (.agg ⟨[c0, c1, c2, c3]⟩) := by kernel_rfl
theorem ix_22 {es : List Value} {i : Nat} {u : Value} (h : es[i]? = some u) (k : IntKind) : rdIndexAddr P 22 (some (rowV 1 es)) (some (.int k (i : Int))) = some (eptrV u) := rdIndex_row (by kernel_rfl) h k
theorem ix_23 {es : List Value} {i : Nat} {u : Value} (h : es[i]? = some u) (k : IntKind) : rdIndexAddr P 23 (some (rowV 6 es)) (some (.int k (i : Int))) = some (eptrV u) := rdIndex_row (by kernel_rfl) h k
theorem ix_30 {es : List Value} {i : Nat} {u : Value} (h : es[i]? = some u) (k : IntKind) : rdIndexAddr P 30 (some (rowV 6 es)) (some (.int k (i : Int))) = some (eptrV u) := rdIndex_row (by kernel_rfl) h k
theorem ix_63 {es : List Value} {i : Nat} {u : Value} (h : es[i]? = some u) (k : IntKind) : rdIndexAddr P 63 (some (rowV 5 es)) (some (.int k (i : Int))) = some (eptrV u) := rdIndex_row (by kernel_rfl) h k
theorem ix_64 {es : List Value} {i : Nat} {u : Value} (h : es[i]? = some u) (k : IntKind) : rdIndexAddr P 64 (some (rowV 4 es)) (some (.int k (i : Int))) = some (eptrV u) := rdIndex_row (by kernel_rfl) h k
theorem ix_65 {es : List Value} {i : Nat} {u : Value} (h : es[i]? = some u) (k : IntKind) : rdIndexAddr P 65 (some (rowV 4 es)) (some (.int k (i : Int))) = some (eptrV u) := rdIndex_row (by kernel_rfl) h k
theorem ix_148 {es : List Value} {i : Nat} {u : Value} (h : es[i]? = some u) (k : IntKind) : rdIndexAddr P 148 (some (rowV 1 es)) (some (.int k (i : Int))) = some (eptrV u) := rdIndex_row (by kernel_rfl) h k
theorem ix_205 {es : List Value} {i : Nat} {u : Value} (h : es[i]? = some u) (k : IntKind) : rdIndexAddr P 205 (some (rowV 4 es)) (some (.int k (i : Int))) = some (eptrV u) := rdIndex_row (by kernel_rfl) h k
theorem ixs_22 {b off len c i : Nat} (h : i < len) (k : IntKind) : rdIndexAddr P 22 (some (.slice (some ⟨b, off, none⟩) len c)) (some (.int k (i : Int))) = some (.pointer (some ⟨b, off + i * 1, none⟩)) := rdIndex_sl (by kernel_rfl) h k
theorem ixs_23 {b off len c i : Nat} (h : i < len) (k : IntKind) : rdIndexAddr P 23 (some (.slice (some ⟨b, off, none⟩) len c)) (some (.int k (i : Int))) = some (.pointer (some ⟨b, off + i * 6, none⟩)) := rdIndex_sl (by kernel_rfl) h k
theorem ixs_30 {b off len c i : Nat} (h : i < len) (k : IntKind) : rdIndexAddr P 30 (some (.slice (some ⟨b, off, none⟩) len c)) (some (.int k (i : Int))) = some (.pointer (some ⟨b, off + i * 6, none⟩)) := rdIndex_sl (by kernel_rfl) h k
theorem ixs_63 {b off len c i : Nat} (h : i < len) (k : IntKind) : rdIndexAddr P 63 (some (.slice (some ⟨b, off, none⟩) len c)) (some (.int k (i : Int))) = some (.pointer (some ⟨b, off + i * 5, none⟩)) := rdIndex_sl (by kernel_rfl) h k
theorem ixs_64 {b off len c i : Nat} (h : i < len) (k : IntKind) : rdIndexAddr P 64 (some (.slice (some ⟨b, off, none⟩) len c)) (some (.int k (i : Int))) = some (.pointer (some ⟨b, off + i * 4, none⟩)) := rdIndex_sl (by kernel_rfl) h k
theorem ixs_65 {b off len c i : Nat} (h : i < len) (k : IntKind) : rdIndexAddr P 65 (some (.slice (some ⟨b, off, none⟩) len c)) (some (.int k (i : Int))) = some (.pointer (some ⟨b, off + i * 4, none⟩)) := rdIndex_sl (by kernel_rfl) h k
theorem ixs_148 {b off len c i : Nat} (h : i < len) (k : IntKind) : rdIndexAddr P 148 (some (.slice (some ⟨b, off, none⟩) len c)) (some (.int k (i : Int))) = some (.pointer (some ⟨b, off + i * 1, none⟩)) := rdIndex_sl (by kernel_rfl) h k
theorem ixs_205 {b off len c i : Nat} (h : i < len) (k : IntKind) : rdIndexAddr P 205 (some (.slice (some ⟨b, off, none⟩) len c)) (some (.int k (i : Int))) = some (.pointer (some ⟨b, off + i * 4, none⟩)) := rdIndex_sl (by kernel_rfl) h k
theorem und_22 : P.underlying 22 = some (.slice 3) := by kernel_rfl
theorem und_23 : P.underlying 23 = some (.slice 25) := by kernel_rfl
theorem und_30 : P.underlying 30 = some (.slice 69) := by kernel_rfl
theorem und_55 : P.underlying 55 = some (.slice 89) := by kernel_rfl
theorem und_56 : P.underlying 56 = some (.slice 79) := by kernel_rfl
theorem und_57 : P.underlying 57 = some (.slice 37) := by kernel_rfl
theorem und_58 : P.underlying 58 = some (.slice 211) := by kernel_rfl
theorem und_63 : P.underlying 63 = some (.slice 125) := by kernel_rfl
theorem und_64 : P.underlying 64 = some (.slice 71) := by kernel_rfl
theorem und_65 : P.underlying 65 = some (.slice 67) := by kernel_rfl
theorem und_81 : P.underlying 81 = some (.slice 192) := by kernel_rfl
theorem und_82 : P.underlying 82 = some (.slice 85) := by kernel_rfl
theorem und_83 : P.underlying 83 = some (.slice 229) := by kernel_rfl
theorem und_100 : P.underlying 100 = some (.slice 5) := by kernel_rfl
theorem und_148 : P.underlying 148 = some (.slice 9) := by kernel_rfl
theorem und_181 : P.underlying 181 = some (.slice 183) := by kernel_rfl
theorem und_205 : P.underlying 205 = some (.slice 177) := by kernel_rfl
theorem und_207 : P.underlying 207 = some (.slice 209) := by kernel_rfl
theorem und_221 : P.underlying 221 = some (.slice 87) := by kernel_rfl
theorem und_222 : P.underlying 222 = some (.slice 227) := by kernel_rfl
theorem und_225 : P.underlying 225 = some (.slice 247) := by kernel_rfl
@[simp] theorem len_9 (s : ByteArray) (ty : TypeId) : rdLen P #[9] ty (some [.string s]) = some (.int .i64 (s.size : Int)) := rdLen_str s (by kernel_rfl)
@[simp] theorem len_22 (s : Nat) (es : List Value) (ty : TypeId) : rdLen P #[22] ty (some [rowV s es]) = some (.int .i64 (es.length : Int)) := rdLen_row s es (by kernel_rfl)
@[simp] theorem lenS_22 (ty : TypeId) (a : Addr) (n c : Nat) : rdLen P #[22] ty (some [.slice (some a) n c]) = some (.int .i64 (n : Int)) := rdLen_sl (by kernel_rfl)
@[simp] theorem lenN_22 (ty : TypeId) : rdLen P #[22] ty (some [.slice none 0 0]) = some (.int .i64 0) := by kernel_rfl
@[simp] theorem len_23 (s : Nat) (es : List Value) (ty : TypeId) : rdLen P #[23] ty (some [rowV s es]) = some (.int .i64 (es.length : Int)) := rdLen_row s es (by kernel_rfl)
@[simp] theorem lenS_23 (ty : TypeId) (a : Addr) (n c : Nat) : rdLen P #[23] ty (some [.slice (some a) n c]) = some (.int .i64 (n : Int)) := rdLen_sl (by kernel_rfl)
@[simp] theorem lenN_23 (ty : TypeId) : rdLen P #[23] ty (some [.slice none 0 0]) = some (.int .i64 0) := by kernel_rfl
@[simp] theorem len_30 (s : Nat) (es : List Value) (ty : TypeId) : rdLen P #[30] ty (some [rowV s es]) = some (.int .i64 (es.length : Int)) := rdLen_row s es (by kernel_rfl)
@[simp] theorem lenS_30 (ty : TypeId) (a : Addr) (n c : Nat) : rdLen P #[30] ty (some [.slice (some a) n c]) = some (.int .i64 (n : Int)) := rdLen_sl (by kernel_rfl)
@[simp] theorem lenN_30 (ty : TypeId) : rdLen P #[30] ty (some [.slice none 0 0]) = some (.int .i64 0) := by kernel_rfl
@[simp] theorem len_63 (s : Nat) (es : List Value) (ty : TypeId) : rdLen P #[63] ty (some [rowV s es]) = some (.int .i64 (es.length : Int)) := rdLen_row s es (by kernel_rfl)
@[simp] theorem lenS_63 (ty : TypeId) (a : Addr) (n c : Nat) : rdLen P #[63] ty (some [.slice (some a) n c]) = some (.int .i64 (n : Int)) := rdLen_sl (by kernel_rfl)
@[simp] theorem lenN_63 (ty : TypeId) : rdLen P #[63] ty (some [.slice none 0 0]) = some (.int .i64 0) := by kernel_rfl
@[simp] theorem len_64 (s : Nat) (es : List Value) (ty : TypeId) : rdLen P #[64] ty (some [rowV s es]) = some (.int .i64 (es.length : Int)) := rdLen_row s es (by kernel_rfl)
@[simp] theorem lenS_64 (ty : TypeId) (a : Addr) (n c : Nat) : rdLen P #[64] ty (some [.slice (some a) n c]) = some (.int .i64 (n : Int)) := rdLen_sl (by kernel_rfl)
@[simp] theorem lenN_64 (ty : TypeId) : rdLen P #[64] ty (some [.slice none 0 0]) = some (.int .i64 0) := by kernel_rfl
@[simp] theorem len_65 (s : Nat) (es : List Value) (ty : TypeId) : rdLen P #[65] ty (some [rowV s es]) = some (.int .i64 (es.length : Int)) := rdLen_row s es (by kernel_rfl)
@[simp] theorem lenS_65 (ty : TypeId) (a : Addr) (n c : Nat) : rdLen P #[65] ty (some [.slice (some a) n c]) = some (.int .i64 (n : Int)) := rdLen_sl (by kernel_rfl)
@[simp] theorem lenN_65 (ty : TypeId) : rdLen P #[65] ty (some [.slice none 0 0]) = some (.int .i64 0) := by kernel_rfl
@[simp] theorem len_148 (s : Nat) (es : List Value) (ty : TypeId) : rdLen P #[148] ty (some [rowV s es]) = some (.int .i64 (es.length : Int)) := rdLen_row s es (by kernel_rfl)
@[simp] theorem lenS_148 (ty : TypeId) (a : Addr) (n c : Nat) : rdLen P #[148] ty (some [.slice (some a) n c]) = some (.int .i64 (n : Int)) := rdLen_sl (by kernel_rfl)
@[simp] theorem lenN_148 (ty : TypeId) : rdLen P #[148] ty (some [.slice none 0 0]) = some (.int .i64 0) := by kernel_rfl
@[simp] theorem len_205 (s : Nat) (es : List Value) (ty : TypeId) : rdLen P #[205] ty (some [rowV s es]) = some (.int .i64 (es.length : Int)) := rdLen_row s es (by kernel_rfl)
@[simp] theorem lenS_205 (ty : TypeId) (a : Addr) (n c : Nat) : rdLen P #[205] ty (some [.slice (some a) n c]) = some (.int .i64 (n : Int)) := rdLen_sl (by kernel_rfl)
@[simp] theorem lenN_205 (ty : TypeId) : rdLen P #[205] ty (some [.slice none 0 0]) = some (.int .i64 0) := by kernel_rfl
theorem zero_25 : zeroC P 25 = some [(.int .i64 0), (.int .i64 0), (.int .i64 0), (.string ⟨⟨[]⟩⟩), (.slice none 0 0), (.slice none 0 0)] := by kernel_rfl
theorem zero_67 : zeroC P 67 = some [(.slice none 0 0), (.int .i64 0), (.slice none 0 0), (.slice none 0 0)] := by kernel_rfl
theorem zero_69 : zeroC P 69 = some [(.int .i64 0), (.int .i64 0), (.slice none 0 0), (.int .i64 0), (.slice none 0 0), (.slice none 0 0)] := by kernel_rfl
theorem zero_71 : zeroC P 71 = some [(.int .i64 0), (.int .i64 0), (.int .i64 0), (.string ⟨⟨[]⟩⟩)] := by kernel_rfl
theorem zero_125 : zeroC P 125 = some [(.int .i64 0), (.int .i64 0), (.int .i64 0), (.slice none 0 0), (.slice none 0 0)] := by kernel_rfl
theorem zero_174 : zeroC P 174 = some [(.int .u8 0), (.int .u8 0), (.int .u8 0), (.int .u8 0), (.int .u8 0), (.int .u8 0), (.int .u8 0), (.int .u8 0), (.int .u8 0), (.int .u8 0), (.int .u8 0), (.int .u8 0), (.int .u8 0), (.int .u8 0), (.int .u8 0), (.int .u8 0), (.int .u8 0), (.int .u8 0), (.int .u8 0), (.int .u8 0)] := by kernel_rfl
theorem zero_177 : zeroC P 177 = some [(.string ⟨⟨[]⟩⟩), (.string ⟨⟨[]⟩⟩), (.string ⟨⟨[]⟩⟩), (.string ⟨⟨[]⟩⟩)] := by kernel_rfl
theorem zero_203 : zeroC P 203 = some [(.string ⟨⟨[]⟩⟩), (.string ⟨⟨[]⟩⟩), (.string ⟨⟨[]⟩⟩), (.string ⟨⟨[]⟩⟩), (.string ⟨⟨[]⟩⟩), (.string ⟨⟨[]⟩⟩), (.string ⟨⟨[]⟩⟩), (.string ⟨⟨[]⟩⟩), (.string ⟨⟨[]⟩⟩), (.string ⟨⟨[]⟩⟩), (.string ⟨⟨[]⟩⟩), (.string ⟨⟨[]⟩⟩), (.string ⟨⟨[]⟩⟩), (.string ⟨⟨[]⟩⟩), (.string ⟨⟨[]⟩⟩), (.string ⟨⟨[]⟩⟩), (.string ⟨⟨[]⟩⟩), (.string ⟨⟨[]⟩⟩), (.string ⟨⟨[]⟩⟩), (.string ⟨⟨[]⟩⟩), (.string ⟨⟨[]⟩⟩), (.string ⟨⟨[]⟩⟩), (.string ⟨⟨[]⟩⟩), (.string ⟨⟨[]⟩⟩), (.string ⟨⟨[]⟩⟩), (.string ⟨⟨[]⟩⟩), (.string ⟨⟨[]⟩⟩), (.string ⟨⟨[]⟩⟩), (.string ⟨⟨[]⟩⟩), (.string ⟨⟨[]⟩⟩), (.string ⟨⟨[]⟩⟩), (.string ⟨⟨[]⟩⟩), (.string ⟨⟨[]⟩⟩), (.string ⟨⟨[]⟩⟩), (.string ⟨⟨[]⟩⟩), (.string ⟨⟨[]⟩⟩), (.string ⟨⟨[]⟩⟩)] := by kernel_rfl
theorem agg_2 : aggQ P 2 = some false := by kernel_rfl
theorem agg_3 : aggQ P 3 = some false := by kernel_rfl
theorem agg_5 : aggQ P 5 = some false := by kernel_rfl
theorem agg_9 : aggQ P 9 = some false := by kernel_rfl
theorem agg_22 : aggQ P 22 = some false := by kernel_rfl
theorem agg_23 : aggQ P 23 = some false := by kernel_rfl
theorem agg_25 : aggQ P 25 = some true := by kernel_rfl
theorem agg_30 : aggQ P 30 = some false := by kernel_rfl
theorem agg_63 : aggQ P 63 = some false := by kernel_rfl
theorem agg_64 : aggQ P 64 = some false := by kernel_rfl
theorem agg_65 : aggQ P 65 = some false := by kernel_rfl
theorem agg_67 : aggQ P 67 = some true := by kernel_rfl
theorem agg_69 : aggQ P 69 = some true := by kernel_rfl
theorem agg_71 : aggQ P 71 = some true := by kernel_rfl
theorem agg_100 : aggQ P 100 = some false := by kernel_rfl
theorem agg_125 : aggQ P 125 = some true := by kernel_rfl
theorem agg_141 : aggQ P 141 = some false := by kernel_rfl
theorem agg_174 : aggQ P 174 = some true := by kernel_rfl
theorem agg_177 : aggQ P 177 = some true := by kernel_rfl
theorem agg_203 : aggQ P 203 = some true := by kernel_rfl
theorem sz_2 : szOf P 2 = some 1 := by kernel_rfl
theorem sz_3 : szOf P 3 = some 1 := by kernel_rfl
theorem sz_5 : szOf P 5 = some 1 := by kernel_rfl
theorem sz_9 : szOf P 9 = some 1 := by kernel_rfl
theorem sz_22 : szOf P 22 = some 1 := by kernel_rfl
theorem sz_23 : szOf P 23 = some 1 := by kernel_rfl
theorem sz_25 : szOf P 25 = some 6 := by kernel_rfl
theorem sz_30 : szOf P 30 = some 1 := by kernel_rfl
theorem sz_63 : szOf P 63 = some 1 := by kernel_rfl
theorem sz_64 : szOf P 64 = some 1 := by kernel_rfl
theorem sz_65 : szOf P 65 = some 1 := by kernel_rfl
theorem sz_67 : szOf P 67 = some 4 := by kernel_rfl
theorem sz_69 : szOf P 69 = some 6 := by kernel_rfl
theorem sz_71 : szOf P 71 = some 4 := by kernel_rfl
theorem sz_100 : szOf P 100 = some 1 := by kernel_rfl
theorem sz_125 : szOf P 125 = some 5 := by kernel_rfl
theorem sz_141 : szOf P 141 = some 1 := by kernel_rfl
theorem sz_177 : szOf P 177 = some 4 := by kernel_rfl
theorem sz_203 : szOf P 203 = some 37 := by kernel_rfl
@[simp] theorem beql_4 (H : T OB) (q a b : Bool) : rdBin P H .eql 4 q (some (.bool a)) (some (.bool b)) = some (.bool (a == b)) := by cases q <;> cases a <;> cases b <;> kernel_rfl
@[simp] theorem pneq_141 (H : T OB) (q : Bool) (u : Value) : rdBin P H .neq 141 q (some (eptrV u)) (some (.pointer none)) = some (.bool true) := by kernel_rfl
@[simp] theorem pneq0_141 (H : T OB) (q : Bool) : rdBin P H .neq 141 q (some (.pointer none)) (some (.pointer none)) = some (.bool false) := by cases q <;> kernel_rfl
theorem plain_71 : plainK P 71 = some [0, 0, 0, 1] := by kernel_rfl
end
end Go.Proofs.YtfdgoenmdalphaaGreatDoor
