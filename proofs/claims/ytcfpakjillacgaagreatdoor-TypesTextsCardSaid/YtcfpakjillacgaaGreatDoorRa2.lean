/- What functions of the program say, as trees. -/
import Derived.Test.YtcfpakjillacgaaGreatDoorRa0
import Derived.KernelRfl
namespace Go.Proofs.YtcfpakjillacgaaGreatDoor
open Go.Ev Go.RowKit
noncomputable section
set_option linter.unusedVariables false
set_option maxHeartbeats 8000000
/-! kindling/kindlingref09.bracketed -/
noncomputable def l18_8 (t1 : Bool) (t2 : Value) (t5 : Value) (t6 : Bool) (H : T OB) (nx : Nat) : Cfg := .at ⟨18, 49, false, [], none, false⟩ (tmOf [(1, .bool t1), (2, t2), (5, t5), (6, .bool t6)]) (todoOf P 18 8) H nx
noncomputable def l18_10 (t1 : Bool) (t5 : Value) (t6 : Bool) (t7 : Bool) (H : T OB) (nx : Nat) : Cfg := .at ⟨18, 49, false, [], none, false⟩ (tmOf [(1, .bool t1), (5, t5), (6, .bool t6), (7, .bool t7)]) (todoOf P 18 10) H nx
noncomputable def l18_12 (t5 : Value) (t44 : Bool) (H : T OB) (nx : Nat) : Cfg := .at ⟨18, 49, false, [], none, false⟩ (tmOf [(5, t5), (44, .bool t44)]) (todoOf P 18 12) H nx
theorem q18 (a0 : Value) (a1 : Bool) (H : T OB) (nx : Nat) : evT P pl (.call 18 [a0, .bool a1] false none H nx) =
  natF (Nat.succ nx) (fun nx =>
  optK (rdLoad P H 24 (some (eptrV a0))) (fun x0 =>
  callQ (.call 7 [x0] false none H nx) (fun x1 H nx =>
  optK (rdFieldAddr P 24 (some (eptrV a0)) 0) (fun x2 =>
  optK (rdLoad P H 3 (some x2)) (fun x3 =>
  optK (rdBin P H .eql 3 true (some x3) (some (.int .i64 2))) (fun x4 =>
  bvK x4 (fun b5 => bK b5 (optK (rdFieldAddr P 24 (some (eptrV a0)) 1) (fun x6 =>
  optK (rdLoad P H 3 (some x6)) (fun x7 =>
  optK (rdBin P H .eql 3 true (some x7) (some (.int .i64 5))) (fun x8 =>
  bvK x8 (fun b9 => bK b9 (optK (rdFieldAddr P 24 (some (eptrV a0)) 3) (fun x10 =>
  optK (rdLoad P H 22 (some x10)) (fun x11 =>
  optK (rdLen P #[22] 3 (some [x11])) (fun x12 =>
  optK (rdBin P H .eql 3 true (some x12) (some (.int .i64 2))) (fun x13 =>
  bvK x13 (fun b14 => .jump (l18_8 a1 (eptrV a0) x1 b14 H nx)) .bad) .bad) .bad) .bad) .bad) (.jump (l18_8 a1 (eptrV a0) x1 false H nx))) .bad) .bad) .bad) .bad) (.jump (l18_8 a1 (eptrV a0) x1 false H nx))) .bad) .bad) .bad) .bad) panK) .bad) := by kernel_rfl
theorem q18_8 (t1 : Bool) (t2 : Value) (t5 : Value) (t6 : Bool) (H : T OB) (nx : Nat) : evT P pl (l18_8 t1 t2 t5 t6 H nx) =
  optK (rdFieldAddr P 24 (some t2) 0) (fun x0 =>
  optK (rdLoad P H 3 (some x0)) (fun x1 =>
  optK (rdBin P H .eql 3 true (some x1) (some (.int .i64 2))) (fun x2 =>
  bvK x2 (fun b3 => bK b3 (optK (rdFieldAddr P 24 (some t2) 1) (fun x4 =>
  optK (rdLoad P H 3 (some x4)) (fun x5 =>
  optK (rdBin P H .eql 3 true (some x5) (some (.int .i64 6))) (fun x6 =>
  bvK x6 (fun b7 => bK b7 (optK (rdFieldAddr P 24 (some t2) 3) (fun x8 =>
  optK (rdLoad P H 22 (some x8)) (fun x9 =>
  optK (rdLen P #[22] 3 (some [x9])) (fun x10 =>
  optK (rdBin P H .geq 3 true (some x10) (some (.int .i64 2))) (fun x11 =>
  bvK x11 (fun b12 => .jump (l18_10 t1 t5 t6 b12 H nx)) .bad) .bad) .bad) .bad) .bad) (.jump (l18_10 t1 t5 t6 false H nx))) .bad) .bad) .bad) .bad) (.jump (l18_10 t1 t5 t6 false H nx))) .bad) .bad) .bad) .bad := by kernel_rfl
theorem q18_10 (t1 : Bool) (t5 : Value) (t6 : Bool) (t7 : Bool) (H : T OB) (nx : Nat) : evT P pl (l18_10 t1 t5 t6 t7 H nx) =
  bK t6 (.jump (l18_12 t5 true H nx)) (bK t7 (.jump (l18_12 t5 t1 H nx)) (.jump (l18_12 t5 false H nx))) := by kernel_rfl
theorem q18_12 (t5 : Value) (t44 : Bool) (H : T OB) (nx : Nat) : evT P pl (l18_12 t5 t44 H nx) =
  bK t44
 (optK (rdBin P H .add 9 true (some (.string ⟨⟨[40]⟩⟩)) (some t5)) (fun x0 =>
  optK (rdBin P H .add 9 true (some x0) (some (.string ⟨⟨[41]⟩⟩))) (fun x1 =>
  .ret ⟨.ret x1, false, H, nx⟩) .bad) .bad)
 (.ret ⟨.ret t5, false, H, nx⟩) := by kernel_rfl
/-! kindling/types.variable -/
noncomputable def l24_10 (t0 : Value) (t3 : Value) (H : T OB) (nx : Nat) : Cfg := .at ⟨24, 25, false, [], none, false⟩ (tmOf [(0, t0), (3, t3)]) (todoOf P 24 10) H nx
noncomputable def l24_16 (t4 : Value) (H : T OB) (nx : Nat) : Cfg := .at ⟨24, 25, false, [], none, false⟩ (tmOf [(4, t4)]) (todoOf P 24 16) H nx
theorem q24 (a0 : Value) (H : T OB) (nx : Nat) : evT P pl (.call 24 [a0] false none H nx) =
  optK (rdBin P H .rem 3 true (some a0) (some (.int .i64 26))) (fun x0 =>
  optK (rdBin P H .lss 3 true (some x0) (some (.int .i64 0))) (fun x1 =>
  bvK x1 (fun b2 => bK b2
 (optK (rdBin P H .add 3 true (some x0) (some (.int .i64 26))) (fun x3 =>
  .jump (l24_10 a0 x3 H nx)) .bad)
 (.jump (l24_10 a0 x0 H nx))) .bad) .bad) .bad := by kernel_rfl
theorem q24_10 (t0 : Value) (t3 : Value) (H : T OB) (nx : Nat) : evT P pl (l24_10 t0 t3 H nx) =
  optK (rdBin P H .add 3 true (some (.int .i64 97)) (some t3)) (fun x0 =>
  optK (rdConv P H 3 5 (some x0)) (fun x1 =>
  effQ (efBuildSlice P H nx 82 1 (some [(0, x1)])) (fun x2 H nx =>
  optK (rdConv P H 82 9 (some x2)) (fun x3 =>
  optK (rdBin P H .add 9 true (some (.string ⟨⟨[39]⟩⟩)) (some x3)) (fun x4 =>
  optK (rdBin P H .geq 3 true (some t0) (some (.int .i64 26))) (fun x5 =>
  bvK x5 (fun b6 => bK b6
 (optK (rdBin P H .quo 3 true (some t0) (some (.int .i64 26))) (fun x7 =>
  callQ (.call 29 [x7] false none H nx) (fun x8 H nx =>
  optK (rdBin P H .add 9 false (some x4) (some x8)) (fun x9 =>
  .jump (l24_16 x9 H nx)) .bad) panK) .bad)
 (.jump (l24_16 x4 H nx))) .bad) .bad) .bad) .bad)) .bad) .bad := by kernel_rfl
theorem q24_16 (t4 : Value) (H : T OB) (nx : Nat) : evT P pl (l24_16 t4 H nx) =
  .ret ⟨.ret t4, false, H, nx⟩ := by kernel_rfl
/-! strconv.Itoa -/
theorem q29 (a0 : Value) (H : T OB) (nx : Nat) : evT P pl (.call 29 [a0] false none H nx) =
  callQ (.call 42 [a0] false none H nx) (fun x0 H nx =>
  .ret ⟨.ret x0, false, H, nx⟩) panK := by kernel_rfl
/-! internal/strconv.Itoa -/
theorem q42 (a0 : Value) (H : T OB) (nx : Nat) : evT P pl (.call 42 [a0] false none H nx) =
  callQ (.call 62 [a0, (.int .i64 10)] false none H nx) (fun x0 H nx =>
  .ret ⟨.ret x0, false, H, nx⟩) panK := by kernel_rfl
/-! internal/strconv.FormatInt -/
noncomputable def l62_8 (t0 : Value) (t17 : Bool) (H : T OB) (nx : Nat) : Cfg := .at ⟨62, 54, false, [], none, false⟩ (tmOf [(0, t0), (17, .bool t17)]) (todoOf P 62 8) H nx
noncomputable def l62_18 (t0 : Value) (t5 : Value) (t6 : Value) (H : T OB) (nx : Nat) : Cfg := .at ⟨62, 54, false, [], none, false⟩ (tmOf [(0, t0), (5, t5), (6, t6)]) (todoOf P 62 18) H nx
theorem q62 (a0 : Value) (a1 : Value) (H : T OB) (nx : Nat) : evT P pl (.call 62 [a0, a1] false none H nx) =
  optK (rdBin P H .eql 3 true (some a1) (some (.int .i64 10))) (fun x0 =>
  bvK x0 (fun b1 => bK b1
 (optK (rdBin P H .leq 2 true (some (.int .i64 0)) (some a0)) (fun x2 =>
  bvK x2 (fun b3 => bK b3 (optK (rdBin P H .lss 2 true (some a0) (some (.int .i64 100))) (fun x4 =>
  bvK x4 (fun b5 => .jump (l62_8 a0 b5 H nx)) .bad) .bad) (.jump (l62_8 a0 false H nx))) .bad) .bad)
 (optK (rdConv P H 2 161 (some a0)) (fun x6 =>
  optK (rdBin P H .lss 2 true (some a0) (some (.int .i64 0))) (fun x7 =>
  bvK x7 (fun b8 => callQ (.call 91 [(.slice none 0 0), x6, a1, (.bool b8), (.bool false)] false none H nx) (fun x9 H nx =>
  optK (rdExtract (some x9) 0) (fun x10 =>
  optK (rdExtract (some x9) 1) (fun x11 =>
  .ret ⟨.ret x11, false, H, nx⟩) .bad) .bad) panK) .bad) .bad) .bad)) .bad) .bad := by kernel_rfl
theorem q62_8 (t0 : Value) (t17 : Bool) (H : T OB) (nx : Nat) : evT P pl (l62_8 t0 t17 H nx) =
  bK t17
 (callQ (.call 88 [t0] false none H nx) (fun x0 H nx =>
  .ret ⟨.ret x0, false, H, nx⟩) panK)
 (effQ (efAlloc P H nx 160) (fun x1 H nx =>
  optK (rdConv P H 2 161 (some t0)) (fun x2 =>
  optK (rdBin P H .lss 2 true (some t0) (some (.int .i64 0))) (fun x3 =>
  bvK x3 (fun b4 => bK b4
 (optK (unV P .neg (some x2)) (fun x5 =>
  .jump (l62_18 t0 x1 x5 H nx)) .bad)
 (.jump (l62_18 t0 x1 x2 H nx))) .bad) .bad) .bad)) := by kernel_rfl
theorem q62_18 (t0 : Value) (t5 : Value) (t6 : Value) (H : T OB) (nx : Nat) : evT P pl (l62_18 t0 t5 t6 H nx) =
  callQ (.call 89 [t6] false none H nx) (fun x0 H nx =>
  optK (rdBin P H .add 3 true (some (.int .i64 1)) (some x0)) (fun x1 =>
  optK (rdSlice P H 160 (some t5) (some (some (.int .i64 1))) (some (some x1)) (some none)) (fun x2 =>
  callQ (.call 90 [x2, t6] false none H nx) (fun x3 H nx =>
  optK (rdBin P H .lss 2 true (some t0) (some (.int .i64 0))) (fun x4 =>
  bvK x4 (fun b5 => bK b5
 (optK (rdIndexAddr P 160 (some t5) (some (.int .i64 0))) (fun x6 =>
  effQ (efStore P H nx 5 (some x6) (some (.int .u8 45))) (fun x7 H nx =>
  optK (rdBin P H .add 3 true (some (.int .i64 1)) (some x0)) (fun x8 =>
  optK (rdSlice P H 160 (some t5) (some none) (some (some x8)) (some none)) (fun x9 =>
  optK (rdConv P H 82 9 (some x9)) (fun x10 =>
  .ret ⟨.ret x10, false, H, nx⟩) .bad) .bad) .bad)) .bad)
 (optK (rdBin P H .add 3 true (some (.int .i64 1)) (some x0)) (fun x11 =>
  optK (rdSlice P H 160 (some t5) (some (some (.int .i64 1))) (some (some x11)) (some none)) (fun x12 =>
  optK (rdConv P H 82 9 (some x12)) (fun x13 =>
  .ret ⟨.ret x13, false, H, nx⟩) .bad) .bad) .bad)) .bad) .bad) panK) .bad) .bad) panK := by kernel_rfl
/-! internal/strconv.small -/
theorem q88 (a0 : Value) (H : T OB) (nx : Nat) : evT P pl (.call 88 [a0] false none H nx) =
  optK (rdBin P H .lss 3 true (some a0) (some (.int .i64 10))) (fun x0 =>
  bvK x0 (fun b1 => bK b1
 (optK (rdBin P H .add 3 true (some a0) (some (.int .i64 1))) (fun x2 =>
  optK (rdSlice P H 9 (some (.string ⟨⟨[48, 49, 50, 51, 52, 53, 54, 55, 56, 57, 97, 98, 99, 100, 101, 102, 103, 104, 105, 106, 107, 108, 109, 110, 111, 112, 113, 114, 115, 116, 117, 118, 119, 120, 121, 122]⟩⟩)) (some (some a0)) (some (some x2)) (some none)) (fun x3 =>
  .ret ⟨.ret x3, false, H, nx⟩) .bad) .bad)
 (optK (rdBin P H .mul 3 true (some a0) (some (.int .i64 2))) (fun x4 =>
  optK (rdBin P H .mul 3 true (some a0) (some (.int .i64 2))) (fun x5 =>
  optK (rdBin P H .add 3 true (some x5) (some (.int .i64 2))) (fun x6 =>
  optK (rdSlice P H 9 (some (.string ⟨⟨[48, 48, 48, 49, 48, 50, 48, 51, 48, 52, 48, 53, 48, 54, 48, 55, 48, 56, 48, 57, 49, 48, 49, 49, 49, 50, 49, 51, 49, 52, 49, 53, 49, 54, 49, 55, 49, 56, 49, 57, 50, 48, 50, 49, 50, 50, 50, 51, 50, 52, 50, 53, 50, 54, 50, 55, 50, 56, 50, 57, 51, 48, 51, 49, 51, 50, 51, 51, 51, 52, 51, 53, 51, 54, 51, 55, 51, 56, 51, 57, 52, 48, 52, 49, 52, 50, 52, 51, 52, 52, 52, 53, 52, 54, 52, 55, 52, 56, 52, 57, 53, 48, 53, 49, 53, 50, 53, 51, 53, 52, 53, 53, 53, 54, 53, 55, 53, 56, 53, 57, 54, 48, 54, 49, 54, 50, 54, 51, 54, 52, 54, 53, 54, 54, 54, 55, 54, 56, 54, 57, 55, 48, 55, 49, 55, 50, 55, 51, 55, 52, 55, 53, 55, 54, 55, 55, 55, 56, 55, 57, 56, 48, 56, 49, 56, 50, 56, 51, 56, 52, 56, 53, 56, 54, 56, 55, 56, 56, 56, 57, 57, 48, 57, 49, 57, 50, 57, 51, 57, 52, 57, 53, 57, 54, 57, 55, 57, 56, 57, 57]⟩⟩)) (some (some x4)) (some (some x6)) (some none)) (fun x7 =>
  .ret ⟨.ret x7, false, H, nx⟩) .bad) .bad) .bad) .bad)) .bad) .bad := by kernel_rfl
/-! internal/strconv.numDigits -/
theorem q89 (a0 : Value) (H : T OB) (nx : Nat) : evT P pl (.call 89 [a0] false none H nx) =
  callQ (.call 106 [a0] false none H nx) (fun x0 H nx =>
  callQ (.call 105 [x0] false none H nx) (fun x1 H nx =>
  optK (rdIndexAddr P 175 (some (.pointer (some ⟨3, 0, none⟩))) (some x1)) (fun x2 =>
  optK (rdLoad P H 161 (some x2)) (fun x3 =>
  optK (rdBin P H .geq 161 false (some a0) (some x3)) (fun x4 =>
  bvK x4 (fun b5 => callQ (.call 107 [(.bool b5)] false none H nx) (fun x6 H nx =>
  optK (rdBin P H .add 3 false (some x1) (some x6)) (fun x7 =>
  .ret ⟨.ret x7, false, H, nx⟩) .bad) panK) .bad) .bad) .bad) .bad) panK) panK := by kernel_rfl
end
end Go.Proofs.YtcfpakjillacgaaGreatDoor
