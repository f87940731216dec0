/- What functions of the program say, as trees. -/
import Derived.Test.YthjhonhhbddhkaaGreatDoorG3
import Derived.KernelRfl
namespace Go.Proofs.YthjhonhhbddhkaaGreatDoor
open Go.Ev Go.RowKit
noncomputable section
set_option linter.unusedVariables false
set_option maxHeartbeats 8000000
/-! kindling/syntax.isBinary -/
noncomputable def l167_7 (t0 : Value) (t5 : Value) (t6 : Value) (H : T OB) (nx : Nat) : Cfg := .at ⟨167, 13, false, [], none, false⟩ (tmOf [(0, t0), (5, t5), (6, t6)]) (todoOf P 167 7) H nx
theorem q167 (a0 : Value) (H : T OB) (nx : Nat) : evT P pl (.call 167 [a0] false none H nx) =
  optK (rdLoad P H 182 (some (.pointer (some ⟨2, 0, none⟩)))) (fun x0 =>
  .jump (l167_7 a0 x0 (.int .i64 0) H nx)) .bad := by kernel_rfl
theorem q167_7 (t0 : Value) (t5 : Value) (t6 : Value) (H : T OB) (nx : Nat) : evT P pl (l167_7 t0 t5 t6 H nx) =
  optK (rdBin P H .lss 3 true (some t6) (some (.int .i64 7))) (fun x0 =>
  bvK x0 (fun b1 => bK b1
 (optK (rdIndex P 182 (some t5) (some t6)) (fun x2 =>
  callQ (.call 153 [x2, t0] false none H nx) (fun x3 H nx =>
  bvK x3 (fun b4 => bK b4
 (.ret ⟨.ret (.bool true), false, H, nx⟩)
 (optK (rdBin P H .add 3 true (some t6) (some (.int .i64 1))) (fun x5 =>
  .jump (l167_7 t0 t5 x5 H nx)) .bad)) .bad) panK) .bad)
 (.ret ⟨.ret (.bool false), false, H, nx⟩)) .bad) .bad := by kernel_rfl
/-! (*kindling/syntax.printer).part -/
theorem q168 (a0 : Value) (a1 : Value) (H : T OB) (nx : Nat) : evT P pl (.call 168 [a0, a1] false none H nx) =
  natF (Nat.succ nx) (fun nx =>
  optK (rdLoad P H 44 (some (eptrV a1))) (fun x0 =>
  callQ (.call 183 [x0] false none H nx) (fun x1 H nx =>
  bvK x1 (fun b2 => bK b2
 (optK (rdLoad P H 44 (some (eptrV a1))) (fun x3 =>
  callQ (.call 131 [a0, x3] false none H nx) (fun x4 H nx =>
  .ret ⟨.ret (.tuple ⟨[]⟩), false, H, nx⟩) panK) .bad)
 (callQ (.call 77 [(.string ⟨⟨[40]⟩⟩)] false none H nx) (fun x5 H nx =>
  effQ (efBuildSlice P H nx 29 1 (some [(0, x5)])) (fun x6 H nx =>
  callQ (.call 76 [a0, x6] false none H nx) (fun x7 H nx =>
  optK (rdLoad P H 44 (some (eptrV a1))) (fun x8 =>
  callQ (.call 131 [a0, x8] false none H nx) (fun x9 H nx =>
  callQ (.call 77 [(.string ⟨⟨[41]⟩⟩)] false none H nx) (fun x10 H nx =>
  effQ (efBuildSlice P H nx 29 1 (some [(0, x10)])) (fun x11 H nx =>
  callQ (.call 76 [a0, x11] false none H nx) (fun x12 H nx =>
  .ret ⟨.ret (.tuple ⟨[]⟩), false, H, nx⟩) panK)) panK) panK) .bad) panK)) panK)) .bad) panK) .bad) := by kernel_rfl
/-! kindling/syntax.op -/
noncomputable def l169_6 (t0 : Value) (t2 : Value) (t10 : Bool) (H : T OB) (nx : Nat) : Cfg := .at ⟨169, 15, false, [], none, false⟩ (tmOf [(0, t0), (2, t2), (10, .bool t10)]) (todoOf P 169 6) H nx
theorem q169 (a0 : Value) (H : T OB) (nx : Nat) : evT P pl (.call 169 [a0] false none H nx) =
  effQ (efAlloc P H nx 31) (fun x0 H nx =>
  optK (rdIndex P 9 (some a0) (some (.int .i64 0))) (fun x1 =>
  optK (rdBin P H .geq 5 true (some x1) (some (.int .u8 97))) (fun x2 =>
  bvK x2 (fun b3 => bK b3 (optK (rdIndex P 9 (some a0) (some (.int .i64 0))) (fun x4 =>
  optK (rdBin P H .leq 5 true (some x4) (some (.int .u8 122))) (fun x5 =>
  bvK x5 (fun b6 => .jump (l169_6 a0 x0 b6 H nx)) .bad) .bad) .bad) (.jump (l169_6 a0 x0 false H nx))) .bad) .bad) .bad) := by kernel_rfl
theorem q169_6 (t0 : Value) (t2 : Value) (t10 : Bool) (H : T OB) (nx : Nat) : evT P pl (l169_6 t0 t2 t10 H nx) =
  bK t10
 (callQ (.call 129 [t0] false none H nx) (fun x0 H nx =>
  effQ (efStore P H nx 31 (some t2) (some x0)) (fun x1 H nx =>
  optK (rdLoad P H 31 (some t2)) (fun x2 =>
  .ret ⟨.ret x2, false, H, nx⟩) .bad)) panK)
 (callQ (.call 77 [t0] false none H nx) (fun x3 H nx =>
  effQ (efStore P H nx 31 (some t2) (some x3)) (fun x4 H nx =>
  optK (rdLoad P H 31 (some t2)) (fun x5 =>
  .ret ⟨.ret x5, false, H, nx⟩) .bad)) panK) := by kernel_rfl
/-! (*kindling/syntax.printer).forms -/
noncomputable def l170_46 (t0 : Value) (t3 : Value) (t77 : Bool) (H : T OB) (nx : Nat) : Cfg := .at ⟨170, 123, false, [], none, false⟩ (tmOf [(0, t0), (3, t3), (77, .bool t77)]) (todoOf P 170 46) H nx
noncomputable def l170_56 (t0 : Value) (t3 : Value) (H : T OB) (nx : Nat) : Cfg := .at ⟨170, 123, false, [], none, false⟩ (tmOf [(0, t0), (3, t3)]) (todoOf P 170 56) H nx
theorem q170 (a0 : Value) (a1 : Value) (H : T OB) (nx : Nat) : evT P pl (.call 170 [a0, a1] false none H nx) =
  natF (Nat.succ nx) (fun nx =>
  optK (rdFieldAddr P 44 (some (eptrV a1)) 0) (fun x0 =>
  optK (rdLoad P H 3 (some x0)) (fun x1 =>
  optK (rdBin P H .eql 3 true (some x1) (some (.int .i64 8))) (fun x2 =>
  bvK x2 (fun b3 => bK b3
 (optK (rdLoad P H 44 (some (eptrV a1))) (fun x4 =>
  callQ (.call 164 [a0, x4, (.int .i64 3), (.bool false), (.bool false), (.bool false), (.bool false)] false none H nx) (fun x5 H nx =>
  optK (rdNil (some a0)) (fun x6 =>
  optK (rdFieldAddr P 116 (some x6) 1) (fun x7 =>
  optK (rdLoad P H 4 (some x7)) (fun x8 =>
  bvK x8 (fun b9 => optK (unV P .not (some (.bool b9))) (fun x10 =>
  bvK x10 (fun b11 => bK b11
 (callQ (.call 129 [(.string ⟨⟨[105, 102]⟩⟩)] false none H nx) (fun x12 H nx =>
  effQ (efBuildSlice P H nx 29 1 (some [(0, x12)])) (fun x13 H nx =>
  callQ (.call 76 [a0, x13] false none H nx) (fun x14 H nx =>
  optK (rdFieldAddr P 44 (some (eptrV a1)) 3) (fun x15 =>
  optK (rdLoad P H 41 (some x15)) (fun x16 =>
  optK (rdIndexAddr P 41 (some x16) (some (.int .i64 0))) (fun x17 =>
  optK (rdLoad P H 44 (some x17)) (fun x18 =>
  callQ (.call 168 [a0, x18] false none H nx) (fun x19 H nx =>
  callQ (.call 129 [(.string ⟨⟨[116, 104, 101, 110]⟩⟩)] false none H nx) (fun x20 H nx =>
  effQ (efBuildSlice P H nx 29 1 (some [(0, x20)])) (fun x21 H nx =>
  callQ (.call 76 [a0, x21] false none H nx) (fun x22 H nx =>
  optK (rdFieldAddr P 44 (some (eptrV a1)) 3) (fun x23 =>
  optK (rdLoad P H 41 (some x23)) (fun x24 =>
  optK (rdIndexAddr P 41 (some x24) (some (.int .i64 1))) (fun x25 =>
  optK (rdLoad P H 44 (some x25)) (fun x26 =>
  callQ (.call 168 [a0, x26] false none H nx) (fun x27 H nx =>
  callQ (.call 129 [(.string ⟨⟨[101, 108, 115, 101]⟩⟩)] false none H nx) (fun x28 H nx =>
  effQ (efBuildSlice P H nx 29 1 (some [(0, x28)])) (fun x29 H nx =>
  callQ (.call 76 [a0, x29] false none H nx) (fun x30 H nx =>
  optK (rdFieldAddr P 44 (some (eptrV a1)) 3) (fun x31 =>
  optK (rdLoad P H 41 (some x31)) (fun x32 =>
  optK (rdIndexAddr P 41 (some x32) (some (.int .i64 2))) (fun x33 =>
  optK (rdLoad P H 44 (some x33)) (fun x34 =>
  callQ (.call 168 [a0, x34] false none H nx) (fun x35 H nx =>
  .ret ⟨.ret (.tuple ⟨[]⟩), false, H, nx⟩) panK) .bad) .bad) .bad) .bad) panK)) panK) panK) .bad) .bad) .bad) .bad) panK)) panK) panK) .bad) .bad) .bad) .bad) panK)) panK)
 (.ret ⟨.ret (.tuple ⟨[]⟩), false, H, nx⟩)) .bad) .bad) .bad) .bad) .bad) .bad) panK) .bad)
 (optK (rdBin P H .eql 3 true (some x1) (some (.int .i64 11))) (fun x36 =>
  bvK x36 (fun b37 => bK b37
 (optK (rdLoad P H 44 (some (eptrV a1))) (fun x38 =>
  callQ (.call 164 [a0, x38, (.int .i64 1), (.bool false), (.bool false), (.bool false), (.bool false)] false none H nx) (fun x39 H nx =>
  callQ (.call 129 [(.string ⟨⟨[114, 97, 105, 115, 101]⟩⟩)] false none H nx) (fun x40 H nx =>
  effQ (efBuildSlice P H nx 29 1 (some [(0, x40)])) (fun x41 H nx =>
  callQ (.call 76 [a0, x41] false none H nx) (fun x42 H nx =>
  optK (rdFieldAddr P 44 (some (eptrV a1)) 3) (fun x43 =>
  optK (rdLoad P H 41 (some x43)) (fun x44 =>
  callQ (.call 165 [a0, x44, (.string ⟨⟨[59]⟩⟩)] false none H nx) (fun x45 H nx =>
  .ret ⟨.ret (.tuple ⟨[]⟩), false, H, nx⟩) panK) .bad) .bad) panK)) panK) panK) .bad)
 (optK (rdBin P H .eql 3 true (some x1) (some (.int .i64 7))) (fun x46 =>
  bvK x46 (fun b47 => bK b47
 (optK (rdLoad P H 44 (some (eptrV a1))) (fun x48 =>
  callQ (.call 164 [a0, x48, (.int .i64 (-1)), (.bool false), (.bool false), (.bool true), (.bool false)] false none H nx) (fun x49 H nx =>
  callQ (.call 129 [(.string ⟨⟨[102, 110]⟩⟩)] false none H nx) (fun x50 H nx =>
  effQ (efBuildSlice P H nx 29 1 (some [(0, x50)])) (fun x51 H nx =>
  callQ (.call 76 [a0, x51] false none H nx) (fun x52 H nx =>
  optK (rdFieldAddr P 44 (some (eptrV a1)) 4) (fun x53 =>
  optK (rdLoad P H 42 (some x53)) (fun x54 =>
  optK (rdFieldAddr P 44 (some (eptrV a1)) 3) (fun x55 =>
  optK (rdLoad P H 41 (some x55)) (fun x56 =>
  callQ (.call 184 [a0, x54, x56] false none H nx) (fun x57 H nx =>
  .ret ⟨.ret (.tuple ⟨[]⟩), false, H, nx⟩) panK) .bad) .bad) .bad) .bad) panK)) panK) panK) .bad)
 (optK (rdBin P H .eql 3 true (some x1) (some (.int .i64 9))) (fun x58 =>
  bvK x58 (fun b59 => bK b59
 (.jump (l170_46 a0 (eptrV a1) b59 H nx))
 (optK (rdBin P H .eql 3 true (some x1) (some (.int .i64 12))) (fun x60 =>
  bvK x60 (fun b61 => .jump (l170_46 a0 (eptrV a1) b61 H nx)) .bad) .bad)) .bad) .bad)) .bad) .bad)) .bad) .bad)) .bad) .bad) .bad) .bad) := by kernel_rfl
theorem q170_46 (t0 : Value) (t3 : Value) (t77 : Bool) (H : T OB) (nx : Nat) : evT P pl (l170_46 t0 t3 t77 H nx) =
  bK t77
 (optK (rdLoad P H 44 (some t3)) (fun x0 =>
  callQ (.call 164 [t0, x0, (.int .i64 (-1)), (.bool false), (.bool false), (.bool true), (.bool false)] false none H nx) (fun x1 H nx =>
  optK (rdFieldAddr P 44 (some t3) 3) (fun x2 =>
  optK (rdLoad P H 41 (some x2)) (fun x3 =>
  optK (rdLen P #[41] 3 (some [x3])) (fun x4 =>
  optK (rdBin P H .gtr 3 true (some x4) (some (.int .i64 1))) (fun x5 =>
  bvK x5 (fun b6 => callQ (.call 127 [t0, (.bool b6)] false none H nx) (fun x7 H nx =>
  optK (rdNil (some t0)) (fun x8 =>
  optK (rdFieldAddr P 116 (some x8) 1) (fun x9 =>
  optK (rdLoad P H 4 (some x9)) (fun x10 =>
  bvK x10 (fun b11 => bK b11
 (.ret ⟨.ret (.tuple ⟨[]⟩), false, H, nx⟩)
 (optK (rdFieldAddr P 44 (some t3) 0) (fun x12 =>
  optK (rdLoad P H 3 (some x12)) (fun x13 =>
  optK (rdBin P H .eql 3 true (some x13) (some (.int .i64 9))) (fun x14 =>
  bvK x14 (fun b15 => bK b15
 (callQ (.call 129 [(.string ⟨⟨[99, 97, 115, 101]⟩⟩)] false none H nx) (fun x16 H nx =>
  effQ (efBuildSlice P H nx 29 1 (some [(0, x16)])) (fun x17 H nx =>
  callQ (.call 76 [t0, x17] false none H nx) (fun x18 H nx =>
  .jump (l170_56 t0 t3 H nx)) panK)) panK)
 (.jump (l170_56 t0 t3 H nx))) .bad) .bad) .bad) .bad)) .bad) .bad) .bad) .bad) panK) .bad) .bad) .bad) .bad) .bad) panK) .bad)
 (optK (rdNil (some t0)) (fun x19 =>
  optK (rdFieldAddr P 116 (some x19) 1) (fun x20 =>
  effQ (efStore P H nx 4 (some x20) (some (.bool true))) (fun x21 H nx =>
  .ret ⟨.ret (.tuple ⟨[]⟩), false, H, nx⟩)) .bad) .bad) := by kernel_rfl
theorem q170_56 (t0 : Value) (t3 : Value) (H : T OB) (nx : Nat) : evT P pl (l170_56 t0 t3 H nx) =
  optK (rdFieldAddr P 44 (some t3) 3) (fun x0 =>
  optK (rdLoad P H 41 (some x0)) (fun x1 =>
  optK (rdIndexAddr P 41 (some x1) (some (.int .i64 0))) (fun x2 =>
  optK (rdLoad P H 44 (some x2)) (fun x3 =>
  callQ (.call 168 [t0, x3] false none H nx) (fun x4 H nx =>
  effQ (efMakeMap H nx) (fun x5 H nx =>
  effQ (efMapUpdate P H nx 163 (some x5) (some (.bool true)) (some (.string ⟨⟨[111, 102]⟩⟩))) (fun x6 H nx =>
  effQ (efMapUpdate P H nx 163 (some x5) (some (.bool false)) (some (.string ⟨⟨[104, 97, 110, 100, 108, 101]⟩⟩))) (fun x7 H nx =>
  optK (rdFieldAddr P 44 (some t3) 0) (fun x8 =>
  optK (rdLoad P H 3 (some x8)) (fun x9 =>
  optK (rdBin P H .eql 3 true (some x9) (some (.int .i64 9))) (fun x10 =>
  bvK x10 (fun b11 => optK (rdLookup P H 163 (some x5) (some (.bool b11)) false) (fun x12 =>
  callQ (.call 129 [x12] false none H nx) (fun x13 H nx =>
  effQ (efBuildSlice P H nx 29 1 (some [(0, x13)])) (fun x14 H nx =>
  callQ (.call 76 [t0, x14] false none H nx) (fun x15 H nx =>
  optK (rdFieldAddr P 44 (some t3) 4) (fun x16 =>
  optK (rdLoad P H 42 (some x16)) (fun x17 =>
  optK (rdFieldAddr P 44 (some t3) 3) (fun x18 =>
  optK (rdLoad P H 41 (some x18)) (fun x19 =>
  optK (rdSlice P H 41 (some x19) (some (some (.int .i64 1))) (some none) (some none)) (fun x20 =>
  callQ (.call 184 [t0, x17, x20] false none H nx) (fun x21 H nx =>
  .ret ⟨.ret (.tuple ⟨[]⟩), false, H, nx⟩) panK) .bad) .bad) .bad) .bad) .bad) panK)) panK) .bad) .bad) .bad) .bad) .bad)))) panK) .bad) .bad) .bad) .bad := by kernel_rfl
/-! (*kindling/syntax.printer).typ -/
noncomputable def l171_18 (t0 : Value) (t3 : Value) (t9 : Value) (t26 : Bool) (H : T OB) (nx : Nat) : Cfg := .at ⟨171, 114, false, [], none, false⟩ (tmOf [(0, t0), (3, t3), (9, t9), (26, .bool t26)]) (todoOf P 171 18) H nx
noncomputable def l171_20 (t0 : Value) (t3 : Value) (H : T OB) (nx : Nat) : Cfg := .at ⟨171, 114, false, [], none, false⟩ (tmOf [(0, t0), (3, t3)]) (todoOf P 171 20) H nx
noncomputable def l171_40 (t0 : Value) (t3 : Value) (H : T OB) (nx : Nat) : Cfg := .at ⟨171, 114, false, [], none, false⟩ (tmOf [(0, t0), (3, t3)]) (todoOf P 171 40) H nx
noncomputable def l171_23 (t0 : Value) (t3 : Value) (t52 : Value) (t53 : Value) (t54 : Value) (H : T OB) (nx : Nat) : Cfg := .at ⟨171, 114, false, [], none, false⟩ (tmOf [(0, t0), (3, t3), (52, t52), (53, t53), (54, t54)]) (todoOf P 171 23) H nx
noncomputable def l171_43 (t0 : Value) (t3 : Value) (t85 : Value) (t86 : Value) (t87 : Value) (H : T OB) (nx : Nat) : Cfg := .at ⟨171, 114, false, [], none, false⟩ (tmOf [(0, t0), (3, t3), (85, t85), (86, t86), (87, t87)]) (todoOf P 171 43) H nx
noncomputable def l171_30 (t0 : Value) (t3 : Value) (t5 : Value) (t52 : Value) (t53 : Value) (t54 : Value) (H : T OB) (nx : Nat) : Cfg := .at ⟨171, 114, false, [], none, false⟩ (tmOf [(0, t0), (3, t3), (5, t5), (52, t52), (53, t53), (54, t54)]) (todoOf P 171 30) H nx
noncomputable def l171_50 (t0 : Value) (t3 : Value) (t7 : Value) (t85 : Value) (t86 : Value) (t87 : Value) (H : T OB) (nx : Nat) : Cfg := .at ⟨171, 114, false, [], none, false⟩ (tmOf [(0, t0), (3, t3), (7, t7), (85, t85), (86, t86), (87, t87)]) (todoOf P 171 50) H nx
noncomputable def l171_58 (t0 : Value) (t3 : Value) (H : T OB) (nx : Nat) : Cfg := .at ⟨171, 114, false, [], none, false⟩ (tmOf [(0, t0), (3, t3)]) (todoOf P 171 58) H nx
theorem q171 (a0 : Value) (a1 : Value) (H : T OB) (nx : Nat) : evT P pl (.call 171 [a0, a1] false none H nx) =
  natF (Nat.succ nx) (fun nx =>
  optK (rdFieldAddr P 138 (some (eptrV a1)) 0) (fun x0 =>
  optK (rdLoad P H 3 (some x0)) (fun x1 =>
  optK (rdBin P H .eql 3 true (some x1) (some (.int .i64 1))) (fun x2 =>
  bvK x2 (fun b3 => bK b3
 (optK (rdFieldAddr P 138 (some (eptrV a1)) 2) (fun x4 =>
  optK (rdLoad P H 53 (some x4)) (fun x5 =>
  optK (rdLen P #[53] 3 (some [x5])) (fun x6 =>
  optK (rdBin P H .eql 3 true (some x6) (some (.int .i64 0))) (fun x7 =>
  bvK x7 (fun b8 => callQ (.call 127 [a0, (.bool b8)] false none H nx) (fun x9 H nx =>
  optK (rdFieldAddr P 138 (some (eptrV a1)) 1) (fun x10 =>
  optK (rdLoad P H 9 (some x10)) (fun x11 =>
  optK (rdBuild P 31 (some [(0, (.int .i64 5)), (1, x11)])) (fun x12 =>
  callQ (.call 132 [a0, x12] false none H nx) (fun x13 H nx =>
  .ret ⟨.ret (.tuple ⟨[]⟩), false, H, nx⟩) panK) .bad) .bad) .bad) panK) .bad) .bad) .bad) .bad) .bad)
 (optK (rdBin P H .eql 3 true (some x1) (some (.int .i64 3))) (fun x14 =>
  bvK x14 (fun b15 => bK b15
 (.jump (l171_18 a0 (eptrV a1) x1 b15 H nx))
 (optK (rdBin P H .eql 3 true (some x1) (some (.int .i64 4))) (fun x16 =>
  bvK x16 (fun b17 => .jump (l171_18 a0 (eptrV a1) x1 b17 H nx)) .bad) .bad)) .bad) .bad)) .bad) .bad) .bad) .bad) := by kernel_rfl
theorem q171_18 (t0 : Value) (t3 : Value) (t9 : Value) (t26 : Bool) (H : T OB) (nx : Nat) : evT P pl (l171_18 t0 t3 t9 t26 H nx) =
  bK t26
 (optK (rdFieldAddr P 138 (some t3) 1) (fun x0 =>
  optK (rdLoad P H 9 (some x0)) (fun x1 =>
  optK (rdBin P H .eql 9 true (some x1) (some (.string ⟨⟨[]⟩⟩))) (fun x2 =>
  bvK x2 (fun b3 => bK b3 (optK (rdFieldAddr P 138 (some t3) 2) (fun x4 =>
  optK (rdLoad P H 53 (some x4)) (fun x5 =>
  optK (rdLen P #[53] 3 (some [x5])) (fun x6 =>
  optK (rdBin P H .geq 3 true (some x6) (some (.int .i64 2))) (fun x7 =>
  bvK x7 (fun b8 => bK b8 (optK (rdFieldAddr P 138 (some t3) 0) (fun x9 =>
  optK (rdLoad P H 3 (some x9)) (fun x10 =>
  optK (rdBin P H .eql 3 true (some x10) (some (.int .i64 4))) (fun x11 =>
  bvK x11 (fun b12 => bK b12 (callQ (.call 127 [t0, (.bool true)] false none H nx) (fun x19 H nx =>
  .jump (l171_20 t0 t3 H nx)) panK) (optK (rdFieldAddr P 138 (some t3) 2) (fun x13 =>
  optK (rdLoad P H 53 (some x13)) (fun x14 =>
  optK (rdLen P #[53] 3 (some [x14])) (fun x15 =>
  optK (rdBin P H .eql 3 true (some x15) (some (.int .i64 2))) (fun x16 =>
  bvK x16 (fun b17 => callQ (.call 127 [t0, (.bool b17)] false none H nx) (fun x18 H nx =>
  .jump (l171_20 t0 t3 H nx)) panK) .bad) .bad) .bad) .bad) .bad)) .bad) .bad) .bad) .bad) (callQ (.call 127 [t0, (.bool false)] false none H nx) (fun x20 H nx =>
  .jump (l171_20 t0 t3 H nx)) panK)) .bad) .bad) .bad) .bad) .bad) (callQ (.call 127 [t0, (.bool false)] false none H nx) (fun x21 H nx =>
  .jump (l171_20 t0 t3 H nx)) panK)) .bad) .bad) .bad) .bad)
 (optK (rdBin P H .eql 3 true (some t9) (some (.int .i64 2))) (fun x22 =>
  bvK x22 (fun b23 => bK b23
 (optK (rdFieldAddr P 138 (some t3) 2) (fun x24 =>
  optK (rdLoad P H 53 (some x24)) (fun x25 =>
  optK (rdLen P #[53] 3 (some [x25])) (fun x26 =>
  optK (rdBin P H .gtr 3 true (some x26) (some (.int .i64 1))) (fun x27 =>
  bvK x27 (fun b28 => bK b28
 (callQ (.call 77 [(.string ⟨⟨[40]⟩⟩)] false none H nx) (fun x29 H nx =>
  effQ (efBuildSlice P H nx 29 1 (some [(0, x29)])) (fun x30 H nx =>
  callQ (.call 76 [t0, x30] false none H nx) (fun x31 H nx =>
  .jump (l171_40 t0 t3 H nx)) panK)) panK)
 (.jump (l171_40 t0 t3 H nx))) .bad) .bad) .bad) .bad) .bad)
 (optK (rdNil (some t0)) (fun x32 =>
  optK (rdFieldAddr P 116 (some x32) 1) (fun x33 =>
  effQ (efStore P H nx 4 (some x33) (some (.bool true))) (fun x34 H nx =>
  .ret ⟨.ret (.tuple ⟨[]⟩), false, H, nx⟩)) .bad) .bad)) .bad) .bad) := by kernel_rfl
theorem q171_20 (t0 : Value) (t3 : Value) (H : T OB) (nx : Nat) : evT P pl (l171_20 t0 t3 H nx) =
  optK (rdFieldAddr P 138 (some t3) 2) (fun x0 =>
  optK (rdLoad P H 53 (some x0)) (fun x1 =>
  optK (rdLen P #[53] 3 (some [x1])) (fun x2 =>
  .jump (l171_23 t0 t3 x1 x2 (.int .i64 0) H nx)) .bad) .bad) .bad := by kernel_rfl
theorem q171_40 (t0 : Value) (t3 : Value) (H : T OB) (nx : Nat) : evT P pl (l171_40 t0 t3 H nx) =
  optK (rdFieldAddr P 138 (some t3) 2) (fun x0 =>
  optK (rdLoad P H 53 (some x0)) (fun x1 =>
  optK (rdLen P #[53] 3 (some [x1])) (fun x2 =>
  .jump (l171_43 t0 t3 x1 x2 (.int .i64 0) H nx)) .bad) .bad) .bad := by kernel_rfl
theorem q171_23 (t0 : Value) (t3 : Value) (t52 : Value) (t53 : Value) (t54 : Value) (H : T OB) (nx : Nat) : evT P pl (l171_23 t0 t3 t52 t53 t54 H nx) =
  optK (rdBin P H .lss 3 false (some t54) (some t53)) (fun x0 =>
  bvK x0 (fun b1 => bK b1
 (optK (rdIndexAddr P 53 (some t52) (some t54)) (fun x2 =>
  optK (rdLoad P H 138 (some x2)) (fun x3 =>
  effQ (efAlloc P H nx 138) (fun x4 H nx =>
  frSt P H nx 138 (some x4) x3 (fun H nx =>
  optK (rdBin P H .gtr 3 true (some t54) (some (.int .i64 0))) (fun x5 =>
  bvK x5 (fun b6 => bK b6
 (effQ (efMakeMap H nx) (fun x7 H nx =>
  effQ (efMapUpdate P H nx 187 (some x7) (some (.int .i64 3)) (some (.string ⟨⟨[45, 62]⟩⟩))) (fun x8 H nx =>
  effQ (efMapUpdate P H nx 187 (some x7) (some (.int .i64 4)) (some (.string ⟨⟨[42]⟩⟩))) (fun x9 H nx =>
  optK (rdFieldAddr P 138 (some t3) 0) (fun x10 =>
  optK (rdLoad P H 3 (some x10)) (fun x11 =>
  optK (rdLookup P H 187 (some x7) (some x11) false) (fun x12 =>
  callQ (.call 77 [x12] false none H nx) (fun x13 H nx =>
  effQ (efBuildSlice P H nx 29 1 (some [(0, x13)])) (fun x14 H nx =>
  callQ (.call 76 [t0, x14] false none H nx) (fun x15 H nx =>
  .jump (l171_30 t0 t3 (eptrV x3) t52 t53 t54 H nx)) panK)) panK) .bad) .bad) .bad))))
 (.jump (l171_30 t0 t3 (eptrV x3) t52 t53 t54 H nx))) .bad) .bad))) .bad) .bad)
 (.ret ⟨.ret (.tuple ⟨[]⟩), false, H, nx⟩)) .bad) .bad := by kernel_rfl
theorem q171_43 (t0 : Value) (t3 : Value) (t85 : Value) (t86 : Value) (t87 : Value) (H : T OB) (nx : Nat) : evT P pl (l171_43 t0 t3 t85 t86 t87 H nx) =
  optK (rdBin P H .lss 3 false (some t87) (some t86)) (fun x0 =>
  bvK x0 (fun b1 => bK b1
 (optK (rdIndexAddr P 53 (some t85) (some t87)) (fun x2 =>
  optK (rdLoad P H 138 (some x2)) (fun x3 =>
  effQ (efAlloc P H nx 138) (fun x4 H nx =>
  frSt P H nx 138 (some x4) x3 (fun H nx =>
  optK (rdBin P H .gtr 3 true (some t87) (some (.int .i64 0))) (fun x5 =>
  bvK x5 (fun b6 => bK b6
 (callQ (.call 77 [(.string ⟨⟨[44]⟩⟩)] false none H nx) (fun x7 H nx =>
  effQ (efBuildSlice P H nx 29 1 (some [(0, x7)])) (fun x8 H nx =>
  callQ (.call 76 [t0, x8] false none H nx) (fun x9 H nx =>
  .jump (l171_50 t0 t3 (eptrV x3) t85 t86 t87 H nx)) panK)) panK)
 (.jump (l171_50 t0 t3 (eptrV x3) t85 t86 t87 H nx))) .bad) .bad))) .bad) .bad)
 (optK (rdFieldAddr P 138 (some t3) 2) (fun x10 =>
  optK (rdLoad P H 53 (some x10)) (fun x11 =>
  optK (rdLen P #[53] 3 (some [x11])) (fun x12 =>
  optK (rdBin P H .gtr 3 true (some x12) (some (.int .i64 1))) (fun x13 =>
  bvK x13 (fun b14 => bK b14
 (callQ (.call 77 [(.string ⟨⟨[41]⟩⟩)] false none H nx) (fun x15 H nx =>
  effQ (efBuildSlice P H nx 29 1 (some [(0, x15)])) (fun x16 H nx =>
  callQ (.call 76 [t0, x16] false none H nx) (fun x17 H nx =>
  .jump (l171_58 t0 t3 H nx)) panK)) panK)
 (.jump (l171_58 t0 t3 H nx))) .bad) .bad) .bad) .bad) .bad)) .bad) .bad := by kernel_rfl
theorem q171_30 (t0 : Value) (t3 : Value) (t5 : Value) (t52 : Value) (t53 : Value) (t54 : Value) (H : T OB) (nx : Nat) : evT P pl (l171_30 t0 t3 t5 t52 t53 t54 H nx) =
  optK (rdLoad P H 138 (some t5)) (fun x0 =>
  callQ (.call 185 [t0, x0] false none H nx) (fun x1 H nx =>
  optK (rdBin P H .add 3 true (some t54) (some (.int .i64 1))) (fun x2 =>
  .jump (l171_23 t0 t3 t52 t53 x2 H nx)) .bad) panK) .bad := by kernel_rfl
theorem q171_50 (t0 : Value) (t3 : Value) (t7 : Value) (t85 : Value) (t86 : Value) (t87 : Value) (H : T OB) (nx : Nat) : evT P pl (l171_50 t0 t3 t7 t85 t86 t87 H nx) =
  optK (rdLoad P H 138 (some t7)) (fun x0 =>
  callQ (.call 185 [t0, x0] false none H nx) (fun x1 H nx =>
  optK (rdBin P H .add 3 true (some t87) (some (.int .i64 1))) (fun x2 =>
  .jump (l171_43 t0 t3 t85 t86 x2 H nx)) .bad) panK) .bad := by kernel_rfl
theorem q171_58 (t0 : Value) (t3 : Value) (H : T OB) (nx : Nat) : evT P pl (l171_58 t0 t3 H nx) =
  optK (rdFieldAddr P 138 (some t3) 1) (fun x0 =>
  optK (rdLoad P H 9 (some x0)) (fun x1 =>
  callQ (.call 186 [t0, x1] false none H nx) (fun x2 H nx =>
  .ret ⟨.ret (.tuple ⟨[]⟩), false, H, nx⟩) panK) .bad) .bad := by kernel_rfl
/-! kindling/kindlingref07.digit16 -/
theorem q180 (a0 : Value) (H : T OB) (nx : Nat) : evT P pl (.call 180 [a0] false none H nx) =
  callQ (.call 144 [a0, (.int .u8 48), (.int .u8 57)] false none H nx) (fun x0 H nx =>
  bvK x0 (fun b1 => bK b1
 (optK (rdConv P H 5 3 (some a0)) (fun x2 =>
  optK (rdBin P H .sub 3 true (some x2) (some (.int .i64 48))) (fun x3 =>
  .ret ⟨.ret x3, false, H, nx⟩) .bad) .bad)
 (callQ (.call 144 [a0, (.int .u8 65), (.int .u8 70)] false none H nx) (fun x4 H nx =>
  bvK x4 (fun b5 => bK b5
 (optK (rdConv P H 5 3 (some a0)) (fun x6 =>
  optK (rdBin P H .sub 3 true (some x6) (some (.int .i64 65))) (fun x7 =>
  optK (rdBin P H .add 3 true (some x7) (some (.int .i64 10))) (fun x8 =>
  .ret ⟨.ret x8, false, H, nx⟩) .bad) .bad) .bad)
 (.ret ⟨.ret (.int .i64 (-1)), false, H, nx⟩)) .bad) panK)) .bad) panK := by kernel_rfl
/-! kindling/syntax.isAtom -/
noncomputable def l183_20 (t5 : Bool) (H : T OB) (nx : Nat) : Cfg := .at ⟨183, 13, false, [], none, false⟩ (tmOf [(5, .bool t5)]) (todoOf P 183 20) H nx
theorem q183 (a0 : Value) (H : T OB) (nx : Nat) : evT P pl (.call 183 [a0] false none H nx) =
  natF (Nat.succ nx) (fun nx =>
  optK (rdFieldAddr P 44 (some (eptrV a0)) 0) (fun x0 =>
  optK (rdLoad P H 3 (some x0)) (fun x1 =>
  optK (rdBin P H .eql 3 true (some x1) (some (.int .i64 1))) (fun x2 =>
  bvK x2 (fun b3 => bK b3
 (.jump (l183_20 b3 H nx))
 (optK (rdBin P H .eql 3 true (some x1) (some (.int .i64 2))) (fun x4 =>
  bvK x4 (fun b5 => bK b5
 (.jump (l183_20 b5 H nx))
 (optK (rdBin P H .eql 3 true (some x1) (some (.int .i64 3))) (fun x6 =>
  bvK x6 (fun b7 => bK b7
 (.jump (l183_20 b7 H nx))
 (optK (rdBin P H .eql 3 true (some x1) (some (.int .i64 4))) (fun x8 =>
  bvK x8 (fun b9 => bK b9
 (.jump (l183_20 b9 H nx))
 (optK (rdBin P H .eql 3 true (some x1) (some (.int .i64 5))) (fun x10 =>
  bvK x10 (fun b11 => bK b11
 (.jump (l183_20 b11 H nx))
 (optK (rdBin P H .eql 3 true (some x1) (some (.int .i64 13))) (fun x12 =>
  bvK x12 (fun b13 => bK b13
 (.jump (l183_20 b13 H nx))
 (optK (rdBin P H .eql 3 true (some x1) (some (.int .i64 10))) (fun x14 =>
  bvK x14 (fun b15 => .jump (l183_20 b15 H nx)) .bad) .bad)) .bad) .bad)) .bad) .bad)) .bad) .bad)) .bad) .bad)) .bad) .bad)) .bad) .bad) .bad) .bad) := by kernel_rfl
theorem q183_20 (t5 : Bool) (H : T OB) (nx : Nat) : evT P pl (l183_20 t5 H nx) =
  bK t5
 (.ret ⟨.ret (.bool true), false, H, nx⟩)
 (.ret ⟨.ret (.bool false), false, H, nx⟩) := by kernel_rfl
end
end Go.Proofs.YthjhonhhbddhkaaGreatDoor
/- What functions of the program say, as trees. -/
namespace Go.Proofs.YthjhonhhbddhkaaGreatDoor
open Go.Ev Go.RowKit
noncomputable section
set_option linter.unusedVariables false
set_option maxHeartbeats 8000000
/-! (*kindling/syntax.printer).match -/
noncomputable def l184_4 (t0 : Value) (t1 : Value) (t2 : Value) (H : T OB) (nx : Nat) : Cfg := .at ⟨184, 53, false, [], none, false⟩ (tmOf [(0, t0), (1, t1), (2, t2)]) (todoOf P 184 4) H nx
noncomputable def l184_7 (t0 : Value) (t1 : Value) (t2 : Value) (t6 : Value) (H : T OB) (nx : Nat) : Cfg := .at ⟨184, 53, false, [], none, false⟩ (tmOf [(0, t0), (1, t1), (2, t2), (6, t6)]) (todoOf P 184 7) H nx
noncomputable def l184_14 (t0 : Value) (t1 : Value) (t2 : Value) (t6 : Value) (H : T OB) (nx : Nat) : Cfg := .at ⟨184, 53, false, [], none, false⟩ (tmOf [(0, t0), (1, t1), (2, t2), (6, t6)]) (todoOf P 184 14) H nx
theorem q184 (a0 : Value) (a1 : Value) (a2 : Value) (H : T OB) (nx : Nat) : evT P pl (.call 184 [a0, a1, a2] false none H nx) =
  optK (rdLen P #[42] 3 (some [a1])) (fun x0 =>
  optK (rdLen P #[41] 3 (some [a2])) (fun x1 =>
  optK (rdBin P H .eql 3 false (some x0) (some x1)) (fun x2 =>
  bvK x2 (fun b3 => bK b3 (optK (rdLen P #[41] 3 (some [a2])) (fun x4 =>
  optK (rdBin P H .gtr 3 true (some x4) (some (.int .i64 0))) (fun x5 =>
  bvK x5 (fun b6 => callQ (.call 127 [a0, (.bool b6)] false none H nx) (fun x7 H nx =>
  .jump (l184_4 a0 a1 a2 H nx)) panK) .bad) .bad) .bad) (callQ (.call 127 [a0, (.bool false)] false none H nx) (fun x8 H nx =>
  .jump (l184_4 a0 a1 a2 H nx)) panK)) .bad) .bad) .bad) .bad := by kernel_rfl
theorem q184_4 (t0 : Value) (t1 : Value) (t2 : Value) (H : T OB) (nx : Nat) : evT P pl (l184_4 t0 t1 t2 H nx) =
  .jump (l184_7 t0 t1 t2 (.int .i64 0) H nx) := by kernel_rfl
theorem q184_7 (t0 : Value) (t1 : Value) (t2 : Value) (t6 : Value) (H : T OB) (nx : Nat) : evT P pl (l184_7 t0 t1 t2 t6 H nx) =
  optK (rdLen P #[41] 3 (some [t2])) (fun x0 =>
  optK (rdBin P H .lss 3 false (some t6) (some x0)) (fun x1 =>
  bvK x1 (fun b2 => bK b2 (optK (rdLen P #[42] 3 (some [t1])) (fun x3 =>
  optK (rdBin P H .lss 3 false (some t6) (some x3)) (fun x4 =>
  bvK x4 (fun b5 => bK b5
 (optK (rdBin P H .gtr 3 true (some t6) (some (.int .i64 0))) (fun x6 =>
  bvK x6 (fun b7 => bK b7
 (callQ (.call 77 [(.string ⟨⟨[124]⟩⟩)] false none H nx) (fun x8 H nx =>
  effQ (efBuildSlice P H nx 29 1 (some [(0, x8)])) (fun x9 H nx =>
  callQ (.call 76 [t0, x9] false none H nx) (fun x10 H nx =>
  .jump (l184_14 t0 t1 t2 t6 H nx)) panK)) panK)
 (.jump (l184_14 t0 t1 t2 t6 H nx))) .bad) .bad)
 (.ret ⟨.ret (.tuple ⟨[]⟩), false, H, nx⟩)) .bad) .bad) .bad) (.ret ⟨.ret (.tuple ⟨[]⟩), false, H, nx⟩)) .bad) .bad) .bad := by kernel_rfl
theorem q184_14 (t0 : Value) (t1 : Value) (t2 : Value) (t6 : Value) (H : T OB) (nx : Nat) : evT P pl (l184_14 t0 t1 t2 t6 H nx) =
  optK (rdIndexAddr P 42 (some t1) (some t6)) (fun x0 =>
  optK (rdLoad P H 47 (some x0)) (fun x1 =>
  callQ (.call 133 [t0, x1] false none H nx) (fun x2 H nx =>
  callQ (.call 77 [(.string ⟨⟨[61, 62]⟩⟩)] false none H nx) (fun x3 H nx =>
  effQ (efBuildSlice P H nx 29 1 (some [(0, x3)])) (fun x4 H nx =>
  callQ (.call 76 [t0, x4] false none H nx) (fun x5 H nx =>
  optK (rdIndexAddr P 41 (some t2) (some t6)) (fun x6 =>
  optK (rdLoad P H 44 (some x6)) (fun x7 =>
  callQ (.call 168 [t0, x7] false none H nx) (fun x8 H nx =>
  optK (rdBin P H .add 3 true (some t6) (some (.int .i64 1))) (fun x9 =>
  .jump (l184_7 t0 t1 t2 x9 H nx)) .bad) panK) .bad) .bad) panK)) panK) panK) .bad) .bad := by kernel_rfl
/-! (*kindling/syntax.printer).typePart -/
noncomputable def l185_6 (t0 : Value) (t3 : Value) (t17 : Bool) (H : T OB) (nx : Nat) : Cfg := .at ⟨185, 32, false, [], none, false⟩ (tmOf [(0, t0), (3, t3), (17, .bool t17)]) (todoOf P 185 6) H nx
theorem q185 (a0 : Value) (a1 : Value) (H : T OB) (nx : Nat) : evT P pl (.call 185 [a0, a1] false none H nx) =
  natF (Nat.succ nx) (fun nx =>
  optK (rdFieldAddr P 138 (some (eptrV a1)) 0) (fun x0 =>
  optK (rdLoad P H 3 (some x0)) (fun x1 =>
  optK (rdBin P H .eql 3 true (some x1) (some (.int .i64 1))) (fun x2 =>
  bvK x2 (fun b3 => bK b3 (.jump (l185_6 a0 (eptrV a1) true H nx)) (optK (rdFieldAddr P 138 (some (eptrV a1)) 0) (fun x4 =>
  optK (rdLoad P H 3 (some x4)) (fun x5 =>
  optK (rdBin P H .eql 3 true (some x5) (some (.int .i64 2))) (fun x6 =>
  bvK x6 (fun b7 => bK b7 (optK (rdFieldAddr P 138 (some (eptrV a1)) 2) (fun x8 =>
  optK (rdLoad P H 53 (some x8)) (fun x9 =>
  optK (rdLen P #[53] 3 (some [x9])) (fun x10 =>
  optK (rdBin P H .eql 3 true (some x10) (some (.int .i64 0))) (fun x11 =>
  bvK x11 (fun b12 => .jump (l185_6 a0 (eptrV a1) b12 H nx)) .bad) .bad) .bad) .bad) .bad) (.jump (l185_6 a0 (eptrV a1) false H nx))) .bad) .bad) .bad) .bad)) .bad) .bad) .bad) .bad) := by kernel_rfl
theorem q185_6 (t0 : Value) (t3 : Value) (t17 : Bool) (H : T OB) (nx : Nat) : evT P pl (l185_6 t0 t3 t17 H nx) =
  bK t17
 (optK (rdLoad P H 138 (some t3)) (fun x0 =>
  callQ (.call 171 [t0, x0] false none H nx) (fun x1 H nx =>
  .ret ⟨.ret (.tuple ⟨[]⟩), false, H, nx⟩) panK) .bad)
 (callQ (.call 77 [(.string ⟨⟨[40]⟩⟩)] false none H nx) (fun x2 H nx =>
  effQ (efBuildSlice P H nx 29 1 (some [(0, x2)])) (fun x3 H nx =>
  callQ (.call 76 [t0, x3] false none H nx) (fun x4 H nx =>
  optK (rdLoad P H 138 (some t3)) (fun x5 =>
  callQ (.call 171 [t0, x5] false none H nx) (fun x6 H nx =>
  callQ (.call 77 [(.string ⟨⟨[41]⟩⟩)] false none H nx) (fun x7 H nx =>
  effQ (efBuildSlice P H nx 29 1 (some [(0, x7)])) (fun x8 H nx =>
  callQ (.call 76 [t0, x8] false none H nx) (fun x9 H nx =>
  .ret ⟨.ret (.tuple ⟨[]⟩), false, H, nx⟩) panK)) panK) panK) .bad) panK)) panK) := by kernel_rfl
/-! (*kindling/syntax.printer).typeName -/
theorem q186 (a0 : Value) (a1 : Value) (H : T OB) (nx : Nat) : evT P pl (.call 186 [a0, a1] false none H nx) =
  optK (rdBin P H .eql 9 true (some a1) (some (.string ⟨⟨[114, 101, 102]⟩⟩))) (fun x0 =>
  bvK x0 (fun b1 => bK b1
 (callQ (.call 129 [a1] false none H nx) (fun x2 H nx =>
  effQ (efBuildSlice P H nx 29 1 (some [(0, x2)])) (fun x3 H nx =>
  callQ (.call 76 [a0, x3] false none H nx) (fun x4 H nx =>
  .ret ⟨.ret (.tuple ⟨[]⟩), false, H, nx⟩) panK)) panK)
 (optK (rdBuild P 31 (some [(0, (.int .i64 3)), (1, a1)])) (fun x5 =>
  callQ (.call 132 [a0, x5] false none H nx) (fun x6 H nx =>
  .ret ⟨.ret (.tuple ⟨[]⟩), false, H, nx⟩) panK) .bad)) .bad) .bad := by kernel_rfl
end
end Go.Proofs.YthjhonhhbddhkaaGreatDoor
