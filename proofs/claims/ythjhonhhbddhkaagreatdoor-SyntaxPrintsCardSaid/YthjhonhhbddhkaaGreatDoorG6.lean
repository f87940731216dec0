/- What functions of the program say, as trees. -/
import Derived.Test.YthjhonhhbddhkaaGreatDoorG3
import Derived.KernelRfl
namespace Go.Proofs.YthjhonhhbddhkaaGreatDoor
open Go.Ev Go.RowKit
noncomputable section
set_option linter.unusedVariables false
set_option maxHeartbeats 8000000
theorem q140 (a0 : Value) (H : T OB) (nx : Nat) : evT P pl (.call 140 [a0] false none H nx) =
 natF (Nat.succ nx) (fun nx =>
 optK (rdFieldAddr P 138 (some (eptrV a0)) 2) (fun x0 =>
 optK (rdLoad P H 53 (some x0)) (fun x1 =>
 callQ (.call 173 [x1] false none H nx) (fun x2 H nx =>
 optK (rdFieldAddr P 138 (some (eptrV a0)) 0) (fun x3 =>
 optK (rdLoad P H 3 (some x3)) (fun x4 =>
 optK (rdBin P H .eql 3 true (some x4) (some (.int .i64 3))) (fun x5 =>
 bvK x5 (fun b6 => bK b6
 (callQ (.call 83 [x2, (.string ⟨⟨[45, 62]⟩⟩)] false none H nx) (fun x7 H nx =>
  .ret ⟨.ret x7, false, H, nx⟩) panK)
 (optK (rdFieldAddr P 138 (some (eptrV a0)) 0) (fun x8 =>
  optK (rdLoad P H 3 (some x8)) (fun x9 =>
  optK (rdBin P H .eql 3 true (some x9) (some (.int .i64 4))) (fun x10 =>
  bvK x10 (fun b11 => bK b11
 (callQ (.call 83 [x2, (.string ⟨⟨[42]⟩⟩)] false none H nx) (fun x12 H nx =>
  .ret ⟨.ret x12, false, H, nx⟩) panK)
 (optK (rdLen P #[49] 3 (some [x2])) (fun x13 =>
  optK (rdBin P H .eql 3 true (some x13) (some (.int .i64 1))) (fun x14 =>
  bvK x14 (fun b15 => bK b15
 (optK (rdIndexAddr P 49 (some x2) (some (.int .i64 0))) (fun x16 =>
  optK (rdLoad P H 9 (some x16)) (fun x17 =>
  optK (rdBin P H .add 9 true (some x17) (some (.string ⟨⟨[32]⟩⟩))) (fun x18 =>
  optK (rdFieldAddr P 138 (some (eptrV a0)) 1) (fun x19 =>
  optK (rdLoad P H 9 (some x19)) (fun x20 =>
  optK (rdBin P H .add 9 false (some x18) (some x20)) (fun x21 =>
  .ret ⟨.ret x21, false, H, nx⟩) .bad) .bad) .bad) .bad) .bad) .bad)
 (optK (rdLen P #[49] 3 (some [x2])) (fun x22 =>
  optK (rdBin P H .gtr 3 true (some x22) (some (.int .i64 1))) (fun x23 =>
  bvK x23 (fun b24 => bK b24
 (optK (rdFieldAddr P 138 (some (eptrV a0)) 1) (fun x25 =>
  optK (rdLoad P H 9 (some x25)) (fun x26 =>
  callQ (.call 83 [x2, (.string ⟨⟨[44]⟩⟩)] false none H nx) (fun x27 H nx =>
  bK (optK (rdLoad P H 9 (some x25)) (fun u => vEq u x26) false && true) (callQ (.call 85 [x27] false none H nx) (fun x28 H nx =>
  bK (optK (rdLoad P H 9 (some x25)) (fun u => vEq u x26) false && true) (optK (rdBin P H .add 9 true (some x28) (some (.string ⟨⟨[32]⟩⟩))) (fun x29 =>
  optK (rdBin P H .add 9 false (some x29) (some x26)) (fun x30 =>
  .ret ⟨.ret x30, false, H, nx⟩) .bad) .bad) .bad) panK) .bad) panK) .bad) .bad)
 (optK (rdFieldAddr P 138 (some (eptrV a0)) 1) (fun x31 =>
  optK (rdLoad P H 9 (some x31)) (fun x32 =>
  .ret ⟨.ret x32, false, H, nx⟩) .bad) .bad)) .bad) .bad) .bad)) .bad) .bad) .bad)) .bad) .bad) .bad) .bad)) .bad) .bad) .bad) .bad) panK) .bad) .bad) := by kernel_rfl
def l141_42 (t2 t3 : Value) (H : T OB) (nx : Nat) : Cfg := .at ⟨141, 44, false, [], none, false⟩ (tmOf [(2, t2), (3, t3)]) (todoOf P 141 42) H nx
def l141_20 (t1 t2 t3 t10 : Value) (t17 : Bool) (H : T OB) (nx : Nat) : Cfg := .at ⟨141, 44, false, [], none, false⟩ (tmOf [(1, t1), (2, t2), (3, t3), (10, t10), (17, .bool t17)]) (todoOf P 141 20) H nx
def l141_28 (t1 t2 t3 t10 : Value) (t25 : Bool) (H : T OB) (nx : Nat) : Cfg := .at ⟨141, 44, false, [], none, false⟩ (tmOf [(1, t1), (2, t2), (3, t3), (10, t10), (25, .bool t25)]) (todoOf P 141 28) H nx
def l141_36 (t1 t2 t3 t10 : Value) (t31 : Bool) (H : T OB) (nx : Nat) : Cfg := .at ⟨141, 44, false, [], none, false⟩ (tmOf [(1, t1), (2, t2), (3, t3), (10, t10), (31, .bool t31)]) (todoOf P 141 36) H nx
theorem q141 (a0 : Value) (H : T OB) (nx : Nat) : evT P pl (.call 141 [a0] false none H nx) =
 natF (Nat.succ nx) (fun nx =>
 effQ (efAlloc P H nx 44) (fun x0 H nx =>
 optK (rdFieldAddr P 44 (some (eptrV a0)) 0) (fun x1 =>
 optK (rdLoad P H 3 (some x1)) (fun x2 =>
 optK (rdFieldAddr P 44 (some (eptrV a0)) 3) (fun x3 =>
 optK (rdLoad P H 41 (some x3)) (fun x4 =>
 optK (rdBuild P 44 (some [(0, x2), (3, x4)])) (fun x5 =>
 effQ (efAlloc P H nx 44) (fun x6 H nx =>
 effQ (efStore P H nx 44 (some x6) (some x5)) (fun x7 H nx =>
 optK (rdFieldAddr P 44 (some (eptrV a0)) 0) (fun x8 =>
 optK (rdLoad P H 3 (some x8)) (fun x9 =>
 optK (rdBin P H .eql 3 true (some x9) (some (.int .i64 1))) (fun x10 =>
 bvK x10 (fun b11 => bK b11
 (optK (rdFieldAddr P 44 (some (eptrV a0)) 1) (fun x12 =>
  optK (rdLoad P H 2 (some x12)) (fun x13 =>
  optK (rdFieldAddr P 44 (some x6) 1) (fun x14 =>
  effQ (efStore P H nx 2 (some x14) (some x13)) (fun x15 H nx =>
  optK (rdFieldAddr P 44 (some x6) 3) (fun x16 =>
  effQ (efStore P H nx 41 (some x16) (some (.slice none 0 0))) (fun x17 H nx =>
  .jump (l141_42 x0 x6 H nx))) .bad)) .bad) .bad) .bad)
 (optK (rdBin P H .eql 3 true (some x9) (some (.int .i64 2))) (fun x18 =>
  bvK x18 (fun b19 => bK b19
 (.jump (l141_20 (eptrV a0) x0 x6 x9 b19 H nx))
 (optK (rdBin P H .eql 3 true (some x9) (some (.int .i64 3))) (fun x20 =>
  bvK x20 (fun b21 => bK b21
 (.jump (l141_20 (eptrV a0) x0 x6 x9 b21 H nx))
 (optK (rdBin P H .eql 3 true (some x9) (some (.int .i64 4))) (fun x22 =>
  bvK x22 (fun b23 => .jump (l141_20 (eptrV a0) x0 x6 x9 b23 H nx)) .bad) .bad)) .bad) .bad)) .bad) .bad)) .bad) .bad) .bad) .bad))) .bad) .bad) .bad) .bad) .bad)) := by kernel_rfl
theorem q141_42 (t2 t3 : Value) (H : T OB) (nx : Nat) : evT P pl (l141_42 t2 t3 H nx) =
 optK (rdLoad P H 44 (some t3)) (fun x0 =>
 effQ (efStore P H nx 44 (some t2) (some x0)) (fun x1 H nx =>
 optK (rdLoad P H 44 (some t2)) (fun x2 =>
 .ret ⟨.ret x2, false, H, nx⟩) .bad)) .bad := by kernel_rfl
theorem q141_20 (t1 t2 t3 t10 : Value) (t17 : Bool) (H : T OB) (nx : Nat) : evT P pl (l141_20 t1 t2 t3 t10 t17 H nx) =
 bK t17
 (optK (rdFieldAddr P 44 (some t1) 2) (fun x0 =>
  optK (rdLoad P H 9 (some x0)) (fun x1 =>
  optK (rdFieldAddr P 44 (some t3) 2) (fun x2 =>
  effQ (efStore P H nx 9 (some x2) (some x1)) (fun x3 H nx =>
  optK (rdFieldAddr P 44 (some t3) 3) (fun x4 =>
  effQ (efStore P H nx 41 (some x4) (some (.slice none 0 0))) (fun x5 H nx =>
  optK (rdLoad P H 44 (some t3)) (fun x6 =>
  effQ (efStore P H nx 44 (some t2) (some x6)) (fun x7 H nx =>
  optK (rdLoad P H 44 (some t2)) (fun x8 =>
  .ret ⟨.ret x8, false, H, nx⟩) .bad)) .bad)) .bad)) .bad) .bad) .bad)
 (optK (rdBin P H .eql 3 true (some t10) (some (.int .i64 14))) (fun x9 =>
  bvK x9 (fun b10 => bK b10
 (.jump (l141_28 t1 t2 t3 t10 b10 H nx))
 (optK (rdBin P H .eql 3 true (some t10) (some (.int .i64 15))) (fun x11 =>
  bvK x11 (fun b12 => .jump (l141_28 t1 t2 t3 t10 b12 H nx)) .bad) .bad)) .bad) .bad) := by kernel_rfl
theorem q141_28 (t1 t2 t3 t10 : Value) (t25 : Bool) (H : T OB) (nx : Nat) : evT P pl (l141_28 t1 t2 t3 t10 t25 H nx) =
 bK t25
 (optK (rdFieldAddr P 44 (some t1) 2) (fun x0 =>
  optK (rdLoad P H 9 (some x0)) (fun x1 =>
  optK (rdFieldAddr P 44 (some t3) 2) (fun x2 =>
  effQ (efStore P H nx 9 (some x2) (some x1)) (fun x3 H nx =>
  optK (rdLoad P H 44 (some t3)) (fun x4 =>
  effQ (efStore P H nx 44 (some t2) (some x4)) (fun x5 H nx =>
  optK (rdLoad P H 44 (some t2)) (fun x6 =>
  .ret ⟨.ret x6, false, H, nx⟩) .bad)) .bad)) .bad) .bad) .bad)
 (optK (rdBin P H .eql 3 true (some t10) (some (.int .i64 7))) (fun x7 =>
  bvK x7 (fun b8 => bK b8
 (.jump (l141_36 t1 t2 t3 t10 b8 H nx))
 (optK (rdBin P H .eql 3 true (some t10) (some (.int .i64 9))) (fun x9 =>
  bvK x9 (fun b10 => bK b10
 (.jump (l141_36 t1 t2 t3 t10 b10 H nx))
 (optK (rdBin P H .eql 3 true (some t10) (some (.int .i64 12))) (fun x11 =>
  bvK x11 (fun b12 => .jump (l141_36 t1 t2 t3 t10 b12 H nx)) .bad) .bad)) .bad) .bad)) .bad) .bad) := by kernel_rfl
theorem q141_36 (t1 t2 t3 t10 : Value) (t31 : Bool) (H : T OB) (nx : Nat) : evT P pl (l141_36 t1 t2 t3 t10 t31 H nx) =
 bK t31
 (optK (rdFieldAddr P 44 (some t1) 4) (fun x0 =>
  optK (rdLoad P H 42 (some x0)) (fun x1 =>
  optK (rdFieldAddr P 44 (some t3) 4) (fun x2 =>
  effQ (efStore P H nx 42 (some x2) (some x1)) (fun x3 H nx =>
  optK (rdLoad P H 44 (some t3)) (fun x4 =>
  effQ (efStore P H nx 44 (some t2) (some x4)) (fun x5 H nx =>
  optK (rdLoad P H 44 (some t2)) (fun x6 =>
  .ret ⟨.ret x6, false, H, nx⟩) .bad)) .bad)) .bad) .bad) .bad)
 (optK (rdBin P H .eql 3 true (some t10) (some (.int .i64 10))) (fun x7 =>
  bvK x7 (fun b8 => bK b8
 (optK (rdFieldAddr P 44 (some t1) 5) (fun x9 =>
  optK (rdLoad P H 24 (some x9)) (fun x10 =>
  optK (rdFieldAddr P 44 (some t3) 5) (fun x11 =>
  effQ (efStore P H nx 24 (some x11) (some x10)) (fun x12 H nx =>
  optK (rdLoad P H 44 (some t3)) (fun x13 =>
  effQ (efStore P H nx 44 (some t2) (some x13)) (fun x14 H nx =>
  optK (rdLoad P H 44 (some t2)) (fun x15 =>
  .ret ⟨.ret x15, false, H, nx⟩) .bad)) .bad)) .bad) .bad) .bad)
 (optK (rdLoad P H 44 (some t3)) (fun x16 =>
  effQ (efStore P H nx 44 (some t2) (some x16)) (fun x17 H nx =>
  optK (rdLoad P H 44 (some t2)) (fun x18 =>
  .ret ⟨.ret x18, false, H, nx⟩) .bad)) .bad)) .bad) .bad) := by kernel_rfl
theorem q142 (H : T OB) (nx : Nat) : evT P pl (.call 142 [] false none H nx) =
 effQ (efBuildSlice P H nx 49 8 (some [(0, (.string ⟨⟨[126]⟩⟩)), (1, (.string ⟨⟨[33]⟩⟩)), (2, (.string ⟨⟨[110, 111, 116]⟩⟩)), (3, (.string ⟨⟨[114, 101, 102]⟩⟩)), (4, (.string ⟨⟨[115, 105, 122, 101]⟩⟩)), (5, (.string ⟨⟨[115, 116, 114]⟩⟩)), (6, (.string ⟨⟨[111, 114, 100]⟩⟩)), (7, (.string ⟨⟨[105, 116, 111, 115]⟩⟩))])) (fun x0 H nx =>
 frzV P 49 x0 H nx (fun x1 H nx =>
 .ret ⟨.ret x1, false, H, nx⟩)) := by kernel_rfl
def l143_7 (t1 t3 : Value) (H : T OB) (nx : Nat) : Cfg := .at ⟨143, 66, false, [], none, false⟩ (tmOf [(1, t1), (3, t3)]) (todoOf P 143 7) H nx
theorem q143 (a0 : Value) (H : T OB) (nx : Nat) : evT P pl (.call 143 [a0] false none H nx) =
 natF (Nat.succ nx) (fun nx =>
 .jump (l143_7 (eptrV a0) (.int .i64 0) H nx)) := by kernel_rfl
theorem q143_7 (t1 t3 : Value) (H : T OB) (nx : Nat) : evT P pl (l143_7 t1 t3 H nx) =
 optK (rdFieldAddr P 138 (some t1) 2) (fun x0 =>
 optK (rdLoad P H 53 (some x0)) (fun x1 =>
 optK (rdLen P #[53] 3 (some [x1])) (fun x2 =>
 optK (rdBin P H .lss 3 false (some t3) (some x2)) (fun x3 =>
 bvK x3 (fun b4 => bK b4
 (optK (rdFieldAddr P 138 (some t1) 2) (fun x5 =>
  optK (rdLoad P H 53 (some x5)) (fun x6 =>
  optK (rdIndexAddr P 53 (some x6) (some t3)) (fun x7 =>
  optK (rdLoad P H 138 (some x7)) (fun x8 =>
  callQ (.call 143 [x8] false none H nx) (fun x9 H nx =>
  bvK x9 (fun b10 => optK (unV P .not (some (.bool b10))) (fun x11 =>
  bvK x11 (fun b12 => bK b12
 (.ret ⟨.ret (.bool false), false, H, nx⟩)
 (optK (rdBin P H .add 3 true (some t3) (some (.int .i64 1))) (fun x13 =>
  .jump (l143_7 t1 x13 H nx)) .bad)) .bad) .bad) .bad) panK) .bad) .bad) .bad) .bad)
 (optK (rdFieldAddr P 138 (some t1) 0) (fun x14 =>
  optK (rdLoad P H 3 (some x14)) (fun x15 =>
  optK (rdBin P H .eql 3 true (some x15) (some (.int .i64 1))) (fun x16 =>
  bvK x16 (fun b17 => bK b17
 (optK (rdFieldAddr P 138 (some t1) 2) (fun x18 =>
  optK (rdLoad P H 53 (some x18)) (fun x19 =>
  optK (rdLen P #[53] 3 (some [x19])) (fun x20 =>
  optK (rdBin P H .eql 3 true (some x20) (some (.int .i64 0))) (fun x21 =>
  bvK x21 (fun b22 => bK b22 (optK (rdFieldAddr P 138 (some t1) 1) (fun x23 =>
  optK (rdLoad P H 9 (some x23)) (fun x24 =>
  callQ (.call 88 [(.int .i64 5), x24] false none H nx) (fun x25 H nx =>
  bvK x25 (fun b26 => .ret ⟨.ret (.bool b26), false, H, nx⟩) .bad) panK) .bad) .bad) (.ret ⟨.ret (.bool false), false, H, nx⟩)) .bad) .bad) .bad) .bad) .bad)
 (optK (rdBin P H .eql 3 true (some x15) (some (.int .i64 2))) (fun x27 =>
  bvK x27 (fun b28 => bK b28
 (optK (rdFieldAddr P 138 (some t1) 1) (fun x29 =>
  optK (rdLoad P H 9 (some x29)) (fun x30 =>
  optK (rdBin P H .eql 9 true (some x30) (some (.string ⟨⟨[114, 101, 102]⟩⟩))) (fun x31 =>
  bvK x31 (fun b32 => bK b32 (.ret ⟨.ret (.bool true), false, H, nx⟩) (optK (rdFieldAddr P 138 (some t1) 1) (fun x33 =>
  optK (rdLoad P H 9 (some x33)) (fun x34 =>
  callQ (.call 88 [(.int .i64 3), x34] false none H nx) (fun x35 H nx =>
  bvK x35 (fun b36 => .ret ⟨.ret (.bool b36), false, H, nx⟩) .bad) panK) .bad) .bad)) .bad) .bad) .bad) .bad)
 (optK (rdBin P H .eql 3 true (some x15) (some (.int .i64 3))) (fun x37 =>
  bvK x37 (fun b38 => bK b38
 (optK (rdFieldAddr P 138 (some t1) 2) (fun x39 =>
  optK (rdLoad P H 53 (some x39)) (fun x40 =>
  optK (rdLen P #[53] 3 (some [x40])) (fun x41 =>
  optK (rdBin P H .eql 3 true (some x41) (some (.int .i64 2))) (fun x42 =>
  bvK x42 (fun b43 => bK b43 (optK (rdFieldAddr P 138 (some t1) 1) (fun x44 =>
  optK (rdLoad P H 9 (some x44)) (fun x45 =>
  optK (rdBin P H .eql 9 true (some x45) (some (.string ⟨⟨[]⟩⟩))) (fun x46 =>
  bvK x46 (fun b47 => .ret ⟨.ret (.bool b47), false, H, nx⟩) .bad) .bad) .bad) .bad) (.ret ⟨.ret (.bool false), false, H, nx⟩)) .bad) .bad) .bad) .bad) .bad)
 (optK (rdFieldAddr P 138 (some t1) 0) (fun x48 =>
  optK (rdLoad P H 3 (some x48)) (fun x49 =>
  optK (rdBin P H .eql 3 true (some x49) (some (.int .i64 4))) (fun x50 =>
  bvK x50 (fun b51 => bK b51 (optK (rdFieldAddr P 138 (some t1) 2) (fun x52 =>
  optK (rdLoad P H 53 (some x52)) (fun x53 =>
  optK (rdLen P #[53] 3 (some [x53])) (fun x54 =>
  optK (rdBin P H .geq 3 true (some x54) (some (.int .i64 2))) (fun x55 =>
  bvK x55 (fun b56 => bK b56 (optK (rdFieldAddr P 138 (some t1) 1) (fun x57 =>
  optK (rdLoad P H 9 (some x57)) (fun x58 =>
  optK (rdBin P H .eql 9 true (some x58) (some (.string ⟨⟨[]⟩⟩))) (fun x59 =>
  bvK x59 (fun b60 => .ret ⟨.ret (.bool b60), false, H, nx⟩) .bad) .bad) .bad) .bad) (.ret ⟨.ret (.bool false), false, H, nx⟩)) .bad) .bad) .bad) .bad) .bad) (.ret ⟨.ret (.bool false), false, H, nx⟩)) .bad) .bad) .bad) .bad)) .bad) .bad)) .bad) .bad)) .bad) .bad) .bad) .bad)) .bad) .bad) .bad) .bad) .bad := by kernel_rfl
theorem q144 (a0 a1 a2 : Value) (H : T OB) (nx : Nat) : evT P pl (.call 144 [a0, a1, a2] false none H nx) =
 optK (rdBin P H .geq 5 false (some a0) (some a1)) (fun x0 =>
 bvK x0 (fun b1 => bK b1 (optK (rdBin P H .leq 5 false (some a0) (some a2)) (fun x2 =>
 bvK x2 (fun b3 => .ret ⟨.ret (.bool b3), false, H, nx⟩) .bad) .bad) (.ret ⟨.ret (.bool false), false, H, nx⟩)) .bad) .bad := by kernel_rfl
def l153_7 (t1 t7 t8 t9 : Value) (H : T OB) (nx : Nat) : Cfg := .at ⟨153, 17, false, [], none, false⟩ (tmOf [(1, t1), (7, t7), (8, t8), (9, t9)]) (todoOf P 153 7) H nx
theorem q153 (a0 a1 : Value) (H : T OB) (nx : Nat) : evT P pl (.call 153 [a0, a1] false none H nx) =
 optK (rdLen P #[49] 3 (some [a0])) (fun x0 =>
 .jump (l153_7 a1 a0 x0 (.int .i64 0) H nx)) .bad := by kernel_rfl
theorem q153_7 (t1 t7 t8 t9 : Value) (H : T OB) (nx : Nat) : evT P pl (l153_7 t1 t7 t8 t9 H nx) =
 optK (rdBin P H .lss 3 false (some t9) (some t8)) (fun x0 =>
 bvK x0 (fun b1 => bK b1
 (optK (rdIndexAddr P 49 (some t7) (some t9)) (fun x2 =>
  optK (rdLoad P H 9 (some x2)) (fun x3 =>
  optK (rdBin P H .eql 9 false (some x3) (some t1)) (fun x4 =>
  bvK x4 (fun b5 => bK b5
 (.ret ⟨.ret (.bool true), false, H, nx⟩)
 (optK (rdBin P H .add 3 true (some t9) (some (.int .i64 1))) (fun x6 =>
  .jump (l153_7 t1 t7 t8 x6 H nx)) .bad)) .bad) .bad) .bad) .bad)
 (.ret ⟨.ret (.bool false), false, H, nx⟩)) .bad) .bad := by kernel_rfl
def l155_6 (t0 : Value) (t20 : Bool) (H : T OB) (nx : Nat) : Cfg := .at ⟨155, 68, false, [], none, false⟩ (tmOf [(0, t0), (20, .bool t20)]) (todoOf P 155 6) H nx
def l155_36 (t0 : Value) (t58 : Bool) (H : T OB) (nx : Nat) : Cfg := .at ⟨155, 68, false, [], none, false⟩ (tmOf [(0, t0), (58, .bool t58)]) (todoOf P 155 36) H nx
theorem q155 (a0 : Value) (H : T OB) (nx : Nat) : evT P pl (.call 155 [a0] false none H nx) =
 optK (rdBin P H .eql 9 true (some a0) (some (.string ⟨⟨[]⟩⟩))) (fun x0 =>
 bvK x0 (fun b1 => bK b1 (.jump (l155_6 a0 true H nx)) (optK (rdIndex P 9 (some a0) (some (.int .i64 0))) (fun x2 =>
 optK (rdBin P H .lss 5 true (some x2) (some (.int .u8 32))) (fun x3 =>
 bvK x3 (fun b4 => bK b4 (.jump (l155_6 a0 true H nx)) (optK (rdIndex P 9 (some a0) (some (.int .i64 0))) (fun x5 =>
 optK (rdBin P H .gtr 5 true (some x5) (some (.int .u8 126))) (fun x6 =>
 bvK x6 (fun b7 => bK b7 (.jump (l155_6 a0 true H nx)) (optK (rdIndex P 9 (some a0) (some (.int .i64 0))) (fun x8 =>
 optK (rdBin P H .eql 5 true (some x8) (some (.int .u8 34))) (fun x9 =>
 bvK x9 (fun b10 => .jump (l155_6 a0 b10 H nx)) .bad) .bad) .bad)) .bad) .bad) .bad)) .bad) .bad) .bad)) .bad) .bad := by kernel_rfl
theorem q155_6 (t0 : Value) (t20 : Bool) (H : T OB) (nx : Nat) : evT P pl (l155_6 t0 t20 H nx) =
 bK t20
 (.ret ⟨.ret (.tuple ⟨[(.int .u8 0), (.int .i64 0)]⟩), false, H, nx⟩)
 (optK (rdIndex P 9 (some t0) (some (.int .i64 0))) (fun x0 =>
  optK (rdBin P H .neq 5 true (some x0) (some (.int .u8 92))) (fun x1 =>
  bvK x1 (fun b2 => bK b2
 (optK (rdIndex P 9 (some t0) (some (.int .i64 0))) (fun x3 =>
  .ret ⟨.ret (.tuple ⟨[x3, (.int .i64 1)]⟩), false, H, nx⟩) .bad)
 (optK (rdLen P #[9] 3 (some [t0])) (fun x4 =>
  optK (rdBin P H .lss 3 true (some x4) (some (.int .i64 2))) (fun x5 =>
  bvK x5 (fun b6 => bK b6
 (.ret ⟨.ret (.tuple ⟨[(.int .u8 0), (.int .i64 0)]⟩), false, H, nx⟩)
 (optK (rdIndex P 9 (some t0) (some (.int .i64 1))) (fun x7 =>
  optK (rdBin P H .eql 5 true (some x7) (some (.int .u8 34))) (fun x8 =>
  bvK x8 (fun b9 => bK b9
 (.ret ⟨.ret (.tuple ⟨[(.int .u8 34), (.int .i64 2)]⟩), false, H, nx⟩)
 (optK (rdBin P H .eql 5 true (some x7) (some (.int .u8 92))) (fun x10 =>
  bvK x10 (fun b11 => bK b11
 (.ret ⟨.ret (.tuple ⟨[(.int .u8 92), (.int .i64 2)]⟩), false, H, nx⟩)
 (optK (rdBin P H .eql 5 true (some x7) (some (.int .u8 110))) (fun x12 =>
  bvK x12 (fun b13 => bK b13
 (.ret ⟨.ret (.tuple ⟨[(.int .u8 10), (.int .i64 2)]⟩), false, H, nx⟩)
 (optK (rdBin P H .eql 5 true (some x7) (some (.int .u8 116))) (fun x14 =>
  bvK x14 (fun b15 => bK b15
 (.ret ⟨.ret (.tuple ⟨[(.int .u8 9), (.int .i64 2)]⟩), false, H, nx⟩)
 (optK (rdIndex P 9 (some t0) (some (.int .i64 1))) (fun x16 =>
  optK (rdBin P H .eql 5 true (some x16) (some (.int .u8 120))) (fun x17 =>
  bvK x17 (fun b18 => bK b18 (optK (rdLen P #[9] 3 (some [t0])) (fun x19 =>
  optK (rdBin P H .geq 3 true (some x19) (some (.int .i64 4))) (fun x20 =>
  bvK x20 (fun b21 => bK b21 (optK (rdIndex P 9 (some t0) (some (.int .i64 2))) (fun x22 =>
  callQ (.call 180 [x22] false none H nx) (fun x23 H nx =>
  optK (rdBin P H .geq 3 true (some x23) (some (.int .i64 0))) (fun x24 =>
  bvK x24 (fun b25 => bK b25 (optK (rdIndex P 9 (some t0) (some (.int .i64 3))) (fun x26 =>
  callQ (.call 180 [x26] false none H nx) (fun x27 H nx =>
  optK (rdBin P H .geq 3 true (some x27) (some (.int .i64 0))) (fun x28 =>
  bvK x28 (fun b29 => .jump (l155_36 t0 b29 H nx)) .bad) .bad) panK) .bad) (.jump (l155_36 t0 false H nx))) .bad) .bad) panK) .bad) (.jump (l155_36 t0 false H nx))) .bad) .bad) .bad) (.jump (l155_36 t0 false H nx))) .bad) .bad) .bad)) .bad) .bad)) .bad) .bad)) .bad) .bad)) .bad) .bad) .bad)) .bad) .bad) .bad)) .bad) .bad) .bad) := by kernel_rfl
theorem q155_36 (t0 : Value) (t58 : Bool) (H : T OB) (nx : Nat) : evT P pl (l155_36 t0 t58 H nx) =
 bK t58
 (optK (rdIndex P 9 (some t0) (some (.int .i64 2))) (fun x0 =>
  optK (rdIndex P 9 (some t0) (some (.int .i64 3))) (fun x1 =>
  callQ (.call 180 [x0] false none H nx) (fun x2 H nx =>
  optK (rdBin P H .mul 3 true (some (.int .i64 16)) (some x2)) (fun x3 =>
  callQ (.call 180 [x1] false none H nx) (fun x4 H nx =>
  bK (optK (rdBin P H .mul 3 true (some (.int .i64 16)) (some x2)) (fun u => vEq u x3) false && true) (optK (rdBin P H .add 3 false (some x3) (some x4)) (fun x5 =>
  optK (rdConv P H 3 5 (some x5)) (fun x6 =>
  .ret ⟨.ret (.tuple ⟨[x6, (.int .i64 4)]⟩), false, H, nx⟩) .bad) .bad) .bad) panK) .bad) panK) .bad) .bad)
 (.ret ⟨.ret (.tuple ⟨[(.int .u8 0), (.int .i64 0)]⟩), false, H, nx⟩) := by kernel_rfl
theorem q156 (a0 : Value) (H : T OB) (nx : Nat) : evT P pl (.call 156 [a0] false none H nx) =
 callQ (.call 144 [a0, (.int .u8 97), (.int .u8 122)] false none H nx) (fun x0 H nx =>
 bvK x0 (fun b1 => bK b1 (.ret ⟨.ret (.bool true), false, H, nx⟩) (callQ (.call 144 [a0, (.int .u8 65), (.int .u8 90)] false none H nx) (fun x2 H nx =>
 bvK x2 (fun b3 => bK b3 (.ret ⟨.ret (.bool true), false, H, nx⟩) (callQ (.call 144 [a0, (.int .u8 48), (.int .u8 57)] false none H nx) (fun x4 H nx =>
 bvK x4 (fun b5 => bK b5 (.ret ⟨.ret (.bool true), false, H, nx⟩) (optK (rdBin P H .eql 5 true (some a0) (some (.int .u8 95))) (fun x6 =>
 bvK x6 (fun b7 => bK b7 (.ret ⟨.ret (.bool true), false, H, nx⟩) (optK (rdBin P H .eql 5 true (some a0) (some (.int .u8 39))) (fun x8 =>
 bvK x8 (fun b9 => .ret ⟨.ret (.bool b9), false, H, nx⟩) .bad) .bad)) .bad) .bad)) .bad) panK)) .bad) panK)) .bad) panK := by kernel_rfl
theorem q157 (H : T OB) (nx : Nat) : evT P pl (.call 157 [] false none H nx) =
 effQ (efBuildSlice P H nx 49 26 (some [(0, (.string ⟨⟨[97, 110, 100]⟩⟩)), (1, (.string ⟨⟨[97, 110, 100, 97, 108, 115, 111]⟩⟩)), (2, (.string ⟨⟨[99, 97, 115, 101]⟩⟩)), (3, (.string ⟨⟨[100, 97, 116, 97, 116, 121, 112, 101]⟩⟩)), (4, (.string ⟨⟨[100, 105, 118]⟩⟩)), (5, (.string ⟨⟨[101, 108, 115, 101]⟩⟩)), (6, (.string ⟨⟨[101, 110, 100]⟩⟩)), (7, (.string ⟨⟨[101, 120, 99, 101, 112, 116, 105, 111, 110]⟩⟩)), (8, (.string ⟨⟨[102, 110]⟩⟩)), (9, (.string ⟨⟨[102, 117, 110]⟩⟩)), (10, (.string ⟨⟨[104, 97, 110, 100, 108, 101]⟩⟩)), (11, (.string ⟨⟨[105, 102]⟩⟩)), (12, (.string ⟨⟨[105, 110]⟩⟩)), (13, (.string ⟨⟨[105, 116, 111, 115]⟩⟩)), (14, (.string ⟨⟨[108, 101, 116]⟩⟩)), (15, (.string ⟨⟨[109, 111, 100]⟩⟩)), (16, (.string ⟨⟨[110, 111, 116]⟩⟩)), (17, (.string ⟨⟨[111, 102]⟩⟩)), (18, (.string ⟨⟨[111, 114, 100]⟩⟩)), (19, (.string ⟨⟨[111, 114, 101, 108, 115, 101]⟩⟩)), (20, (.string ⟨⟨[114, 97, 105, 115, 101]⟩⟩)), (21, (.string ⟨⟨[114, 101, 102]⟩⟩)), (22, (.string ⟨⟨[115, 105, 122, 101]⟩⟩)), (23, (.string ⟨⟨[115, 116, 114]⟩⟩)), (24, (.string ⟨⟨[116, 104, 101, 110]⟩⟩)), (25, (.string ⟨⟨[118, 97, 108]⟩⟩))])) (fun x0 H nx =>
 frzV P 49 x0 H nx (fun x1 H nx =>
 .ret ⟨.ret x1, false, H, nx⟩)) := by kernel_rfl
def l162_5 (t0 t6 t7 t8 : Value) (H : T OB) (nx : Nat) : Cfg := .at ⟨162, 23, false, [], none, false⟩ (tmOf [(0, t0), (6, t6), (7, t7), (8, t8)]) (todoOf P 162 5) H nx
def l162_12 (t0 t5 t6 t7 t8 : Value) (H : T OB) (nx : Nat) : Cfg := .at ⟨162, 23, false, [], none, false⟩ (tmOf [(0, t0), (5, t5), (6, t6), (7, t7), (8, t8)]) (todoOf P 162 12) H nx
theorem q162 (a0 a1 : Value) (H : T OB) (nx : Nat) : evT P pl (.call 162 [a0, a1] false none H nx) =
 optK (rdLen P #[42] 3 (some [a1])) (fun x0 =>
 .jump (l162_5 a0 a1 x0 (.int .i64 0) H nx)) .bad := by kernel_rfl
theorem q162_5 (t0 t6 t7 t8 : Value) (H : T OB) (nx : Nat) : evT P pl (l162_5 t0 t6 t7 t8 H nx) =
 optK (rdBin P H .lss 3 false (some t8) (some t7)) (fun x0 =>
 bvK x0 (fun b1 => bK b1
 (optK (rdIndexAddr P 42 (some t6) (some t8)) (fun x2 =>
  optK (rdLoad P H 47 (some x2)) (fun x3 =>
  effQ (efAlloc P H nx 47) (fun x4 H nx =>
  frSt P H nx 47 (some x4) x3 (fun H nx =>
  optK (rdBin P H .gtr 3 true (some t8) (some (.int .i64 0))) (fun x5 =>
  bvK x5 (fun b6 => bK b6
 (callQ (.call 77 [(.string ⟨⟨[44]⟩⟩)] false none H nx) (fun x7 H nx =>
  effQ (efBuildSlice P H nx 29 1 (some [(0, x7)])) (fun x8 H nx =>
  callQ (.call 76 [t0, x8] false none H nx) (fun x9 H nx =>
  .jump (l162_12 t0 (eptrV x3) t6 t7 t8 H nx)) panK)) panK)
 (.jump (l162_12 t0 (eptrV x3) t6 t7 t8 H nx))) .bad) .bad))) .bad) .bad)
 (.ret ⟨.ret (.tuple ⟨[]⟩), false, H, nx⟩)) .bad) .bad := by kernel_rfl
theorem q162_12 (t0 t5 t6 t7 t8 : Value) (H : T OB) (nx : Nat) : evT P pl (l162_12 t0 t5 t6 t7 t8 H nx) =
 optK (rdLoad P H 47 (some t5)) (fun x0 =>
 callQ (.call 133 [t0, x0] false none H nx) (fun x1 H nx =>
 optK (rdBin P H .add 3 true (some t8) (some (.int .i64 1))) (fun x2 =>
 .jump (l162_5 t0 t6 t7 x2 H nx)) .bad) panK) .bad := by kernel_rfl
end
end Go.Proofs.YthjhonhhbddhkaaGreatDoor
/- What functions of the program say, as trees. -/
namespace Go.Proofs.YthjhonhhbddhkaaGreatDoor
open Go.Ev Go.RowKit
noncomputable section
set_option linter.unusedVariables false
set_option maxHeartbeats 8000000
def l163_6 (t0 t3 : Value) (H : T OB) (nx : Nat) : Cfg := .at ⟨163, 102, false, [], none, false⟩ (tmOf [(0, t0), (3, t3)]) (todoOf P 163 6) H nx
def l163_10 (t0 t3 : Value) (H : T OB) (nx : Nat) : Cfg := .at ⟨163, 102, false, [], none, false⟩ (tmOf [(0, t0), (3, t3)]) (todoOf P 163 10) H nx
def l163_23 (t0 t92 t93 t94 : Value) (H : T OB) (nx : Nat) : Cfg := .at ⟨163, 102, false, [], none, false⟩ (tmOf [(0, t0), (92, t92), (93, t93), (94, t94)]) (todoOf P 163 23) H nx
theorem q163 (a0 a1 : Value) (H : T OB) (nx : Nat) : evT P pl (.call 163 [a0, a1] false none H nx) =
 natF (Nat.succ nx) (fun nx =>
 optK (rdFieldAddr P 47 (some (eptrV a1)) 3) (fun x0 =>
 optK (rdLoad P H 42 (some x0)) (fun x1 =>
 optK (rdLen P #[42] 3 (some [x1])) (fun x2 =>
 optK (rdBin P H .leq 3 true (some x2) (some (.int .i64 1))) (fun x3 =>
 bvK x3 (fun b4 => bK b4 (optK (rdFieldAddr P 47 (some (eptrV a1)) 1) (fun x5 =>
 optK (rdLoad P H 2 (some x5)) (fun x6 =>
 optK (rdBin P H .eql 2 true (some x6) (some (.int .i64 0))) (fun x7 =>
 bvK x7 (fun b8 => callQ (.call 127 [a0, (.bool b8)] false none H nx) (fun x9 H nx =>
 .jump (l163_6 a0 (eptrV a1) H nx)) panK) .bad) .bad) .bad) .bad) (callQ (.call 127 [a0, (.bool false)] false none H nx) (fun x10 H nx =>
 .jump (l163_6 a0 (eptrV a1) H nx)) panK)) .bad) .bad) .bad) .bad) .bad) := by kernel_rfl
theorem q163_6 (t0 t3 : Value) (H : T OB) (nx : Nat) : evT P pl (l163_6 t0 t3 H nx) =
 optK (rdFieldAddr P 47 (some t3) 2) (fun x0 =>
 optK (rdLoad P H 9 (some x0)) (fun x1 =>
 optK (rdBin P H .eql 9 true (some x1) (some (.string ⟨⟨[58, 58]⟩⟩))) (fun x2 =>
 bvK x2 (fun b3 => bK b3
 (optK (rdFieldAddr P 47 (some t3) 3) (fun x4 =>
  optK (rdLoad P H 42 (some x4)) (fun x5 =>
  optK (rdLen P #[42] 3 (some [x5])) (fun x6 =>
  optK (rdBin P H .eql 3 true (some x6) (some (.int .i64 1))) (fun x7 =>
  bvK x7 (fun b8 => bK b8 (optK (rdFieldAddr P 47 (some t3) 3) (fun x9 =>
  optK (rdLoad P H 42 (some x9)) (fun x10 =>
  optK (rdIndexAddr P 42 (some x10) (some (.int .i64 0))) (fun x11 =>
  optK (rdFieldAddr P 47 (some x11) 0) (fun x12 =>
  optK (rdLoad P H 3 (some x12)) (fun x13 =>
  optK (rdBin P H .eql 3 true (some x13) (some (.int .i64 5))) (fun x14 =>
  bvK x14 (fun b15 => bK b15 (optK (rdFieldAddr P 47 (some t3) 3) (fun x16 =>
  optK (rdLoad P H 42 (some x16)) (fun x17 =>
  optK (rdIndexAddr P 42 (some x17) (some (.int .i64 0))) (fun x18 =>
  optK (rdFieldAddr P 47 (some x18) 3) (fun x19 =>
  optK (rdLoad P H 42 (some x19)) (fun x20 =>
  optK (rdLen P #[42] 3 (some [x20])) (fun x21 =>
  optK (rdBin P H .eql 3 true (some x21) (some (.int .i64 2))) (fun x22 =>
  bvK x22 (fun b23 => bK b23 (optK (rdFieldAddr P 47 (some t3) 3) (fun x24 =>
  optK (rdLoad P H 42 (some x24)) (fun x25 =>
  optK (rdIndexAddr P 42 (some x25) (some (.int .i64 0))) (fun x26 =>
  optK (rdFieldAddr P 47 (some x26) 2) (fun x27 =>
  optK (rdLoad P H 9 (some x27)) (fun x28 =>
  optK (rdBin P H .eql 9 true (some x28) (some (.string ⟨⟨[]⟩⟩))) (fun x29 =>
  bvK x29 (fun b30 => bK b30 (optK (rdFieldAddr P 47 (some t3) 3) (fun x31 =>
  optK (rdLoad P H 42 (some x31)) (fun x32 =>
  optK (rdIndexAddr P 42 (some x32) (some (.int .i64 0))) (fun x33 =>
  optK (rdFieldAddr P 47 (some x33) 1) (fun x34 =>
  optK (rdLoad P H 2 (some x34)) (fun x35 =>
  optK (rdBin P H .eql 2 true (some x35) (some (.int .i64 0))) (fun x36 =>
  bvK x36 (fun b37 => callQ (.call 127 [t0, (.bool b37)] false none H nx) (fun x38 H nx =>
  .jump (l163_10 t0 t3 H nx)) panK) .bad) .bad) .bad) .bad) .bad) .bad) .bad) (callQ (.call 127 [t0, (.bool false)] false none H nx) (fun x39 H nx =>
  .jump (l163_10 t0 t3 H nx)) panK)) .bad) .bad) .bad) .bad) .bad) .bad) .bad) (callQ (.call 127 [t0, (.bool false)] false none H nx) (fun x40 H nx =>
  .jump (l163_10 t0 t3 H nx)) panK)) .bad) .bad) .bad) .bad) .bad) .bad) .bad) .bad) (callQ (.call 127 [t0, (.bool false)] false none H nx) (fun x41 H nx =>
  .jump (l163_10 t0 t3 H nx)) panK)) .bad) .bad) .bad) .bad) .bad) .bad) .bad) (callQ (.call 127 [t0, (.bool false)] false none H nx) (fun x42 H nx =>
  .jump (l163_10 t0 t3 H nx)) panK)) .bad) .bad) .bad) .bad) .bad)
 (optK (rdFieldAddr P 47 (some t3) 2) (fun x43 =>
  optK (rdLoad P H 9 (some x43)) (fun x44 =>
  optK (rdBuild P 31 (some [(0, (.int .i64 4)), (1, x44)])) (fun x45 =>
  callQ (.call 132 [t0, x45] false none H nx) (fun x46 H nx =>
  optK (rdFieldAddr P 47 (some t3) 3) (fun x47 =>
  optK (rdLoad P H 42 (some x47)) (fun x48 =>
  optK (rdLen P #[42] 3 (some [x48])) (fun x49 =>
  .jump (l163_23 t0 x48 x49 (.int .i64 0) H nx)) .bad) .bad) .bad) panK) .bad) .bad) .bad)) .bad) .bad) .bad) .bad := by kernel_rfl
theorem q163_10 (t0 t3 : Value) (H : T OB) (nx : Nat) : evT P pl (l163_10 t0 t3 H nx) =
 optK (rdNil (some t0)) (fun x0 =>
 optK (rdFieldAddr P 116 (some x0) 1) (fun x1 =>
 optK (rdLoad P H 4 (some x1)) (fun x2 =>
 bvK x2 (fun b3 => optK (unV P .not (some (.bool b3))) (fun x4 =>
 bvK x4 (fun b5 => bK b5
 (optK (rdFieldAddr P 47 (some t3) 3) (fun x6 =>
  optK (rdLoad P H 42 (some x6)) (fun x7 =>
  optK (rdIndexAddr P 42 (some x7) (some (.int .i64 0))) (fun x8 =>
  optK (rdFieldAddr P 47 (some x8) 3) (fun x9 =>
  optK (rdLoad P H 42 (some x9)) (fun x10 =>
  optK (rdIndexAddr P 42 (some x10) (some (.int .i64 0))) (fun x11 =>
  optK (rdLoad P H 47 (some x11)) (fun x12 =>
  callQ (.call 133 [t0, x12] false none H nx) (fun x13 H nx =>
  callQ (.call 77 [(.string ⟨⟨[58, 58]⟩⟩)] false none H nx) (fun x14 H nx =>
  effQ (efBuildSlice P H nx 29 1 (some [(0, x14)])) (fun x15 H nx =>
  callQ (.call 76 [t0, x15] false none H nx) (fun x16 H nx =>
  optK (rdFieldAddr P 47 (some t3) 3) (fun x17 =>
  optK (rdLoad P H 42 (some x17)) (fun x18 =>
  optK (rdIndexAddr P 42 (some x18) (some (.int .i64 0))) (fun x19 =>
  optK (rdFieldAddr P 47 (some x19) 3) (fun x20 =>
  optK (rdLoad P H 42 (some x20)) (fun x21 =>
  optK (rdIndexAddr P 42 (some x21) (some (.int .i64 1))) (fun x22 =>
  optK (rdLoad P H 47 (some x22)) (fun x23 =>
  callQ (.call 133 [t0, x23] false none H nx) (fun x24 H nx =>
  .ret ⟨.ret (.tuple ⟨[]⟩), false, H, nx⟩) panK) .bad) .bad) .bad) .bad) .bad) .bad) .bad) panK)) panK) panK) .bad) .bad) .bad) .bad) .bad) .bad) .bad)
 (.ret ⟨.ret (.tuple ⟨[]⟩), false, H, nx⟩)) .bad) .bad) .bad) .bad) .bad) .bad := by kernel_rfl
theorem q163_23 (t0 t92 t93 t94 : Value) (H : T OB) (nx : Nat) : evT P pl (l163_23 t0 t92 t93 t94 H nx) =
 optK (rdBin P H .lss 3 false (some t94) (some t93)) (fun x0 =>
 bvK x0 (fun b1 => bK b1
 (optK (rdIndexAddr P 42 (some t92) (some t94)) (fun x2 =>
  optK (rdLoad P H 47 (some x2)) (fun x3 =>
  effQ (efAlloc P H nx 47) (fun x4 H nx =>
  frSt P H nx 47 (some x4) x3 (fun H nx =>
  optK (rdLoad P H 47 (some (eptrV x3))) (fun x5 =>
  callQ (.call 133 [t0, x5] false none H nx) (fun x6 H nx =>
  optK (rdBin P H .add 3 true (some t94) (some (.int .i64 1))) (fun x7 =>
  .jump (l163_23 t0 t92 t93 x7 H nx)) .bad) panK) .bad))) .bad) .bad)
 (.ret ⟨.ret (.tuple ⟨[]⟩), false, H, nx⟩)) .bad) .bad := by kernel_rfl
theorem q164 (a0 a1 a2 : Value) (a3 : Bool) (a4 : Bool) (a5 : Bool) (a6 : Bool) (H : T OB) (nx : Nat) : evT P pl (.call 164 [a0, a1, a2, .bool a3, .bool a4, .bool a5, .bool a6] false none H nx) =
 natF (Nat.succ nx) (fun nx =>
 optK (rdBin P H .lss 3 true (some a2) (some (.int .i64 0))) (fun x0 =>
 bvK x0 (fun b1 => bK b1 (bK a3 (bK a4 (bK a5 (bK a6 (callQ (.call 127 [a0, (.bool true)] false none H nx) (fun x197 H nx =>
 .ret ⟨.ret (.tuple ⟨[]⟩), false, H, nx⟩) panK) (optK (rdFieldAddr P 44 (some (eptrV a1)) 5) (fun x191 =>
 optK (rdLoad P H 24 (some x191)) (fun x192 =>
 optK (rdLen P #[24] 3 (some [x192])) (fun x193 =>
 optK (rdBin P H .eql 3 true (some x193) (some (.int .i64 0))) (fun x194 =>
 bvK x194 (fun b195 => callQ (.call 127 [a0, (.bool b195)] false none H nx) (fun x196 H nx =>
 .ret ⟨.ret (.tuple ⟨[]⟩), false, H, nx⟩) panK) .bad) .bad) .bad) .bad) .bad)) (optK (rdFieldAddr P 44 (some (eptrV a1)) 4) (fun x178 =>
 optK (rdLoad P H 42 (some x178)) (fun x179 =>
 optK (rdLen P #[42] 3 (some [x179])) (fun x180 =>
 optK (rdBin P H .eql 3 true (some x180) (some (.int .i64 0))) (fun x181 =>
 bvK x181 (fun b182 => bK b182 (bK a6 (callQ (.call 127 [a0, (.bool true)] false none H nx) (fun x189 H nx =>
 .ret ⟨.ret (.tuple ⟨[]⟩), false, H, nx⟩) panK) (optK (rdFieldAddr P 44 (some (eptrV a1)) 5) (fun x183 =>
 optK (rdLoad P H 24 (some x183)) (fun x184 =>
 optK (rdLen P #[24] 3 (some [x184])) (fun x185 =>
 optK (rdBin P H .eql 3 true (some x185) (some (.int .i64 0))) (fun x186 =>
 bvK x186 (fun b187 => callQ (.call 127 [a0, (.bool b187)] false none H nx) (fun x188 H nx =>
 .ret ⟨.ret (.tuple ⟨[]⟩), false, H, nx⟩) panK) .bad) .bad) .bad) .bad) .bad)) (callQ (.call 127 [a0, (.bool false)] false none H nx) (fun x190 H nx =>
 .ret ⟨.ret (.tuple ⟨[]⟩), false, H, nx⟩) panK)) .bad) .bad) .bad) .bad) .bad)) (optK (rdFieldAddr P 44 (some (eptrV a1)) 1) (fun x153 =>
 optK (rdLoad P H 2 (some x153)) (fun x154 =>
 optK (rdBin P H .eql 2 true (some x154) (some (.int .i64 0))) (fun x155 =>
 bvK x155 (fun b156 => bK b156 (bK a5 (bK a6 (callQ (.call 127 [a0, (.bool true)] false none H nx) (fun x176 H nx =>
 .ret ⟨.ret (.tuple ⟨[]⟩), false, H, nx⟩) panK) (optK (rdFieldAddr P 44 (some (eptrV a1)) 5) (fun x170 =>
 optK (rdLoad P H 24 (some x170)) (fun x171 =>
 optK (rdLen P #[24] 3 (some [x171])) (fun x172 =>
 optK (rdBin P H .eql 3 true (some x172) (some (.int .i64 0))) (fun x173 =>
 bvK x173 (fun b174 => callQ (.call 127 [a0, (.bool b174)] false none H nx) (fun x175 H nx =>
 .ret ⟨.ret (.tuple ⟨[]⟩), false, H, nx⟩) panK) .bad) .bad) .bad) .bad) .bad)) (optK (rdFieldAddr P 44 (some (eptrV a1)) 4) (fun x157 =>
 optK (rdLoad P H 42 (some x157)) (fun x158 =>
 optK (rdLen P #[42] 3 (some [x158])) (fun x159 =>
 optK (rdBin P H .eql 3 true (some x159) (some (.int .i64 0))) (fun x160 =>
 bvK x160 (fun b161 => bK b161 (bK a6 (callQ (.call 127 [a0, (.bool true)] false none H nx) (fun x168 H nx =>
 .ret ⟨.ret (.tuple ⟨[]⟩), false, H, nx⟩) panK) (optK (rdFieldAddr P 44 (some (eptrV a1)) 5) (fun x162 =>
 optK (rdLoad P H 24 (some x162)) (fun x163 =>
 optK (rdLen P #[24] 3 (some [x163])) (fun x164 =>
 optK (rdBin P H .eql 3 true (some x164) (some (.int .i64 0))) (fun x165 =>
 bvK x165 (fun b166 => callQ (.call 127 [a0, (.bool b166)] false none H nx) (fun x167 H nx =>
 .ret ⟨.ret (.tuple ⟨[]⟩), false, H, nx⟩) panK) .bad) .bad) .bad) .bad) .bad)) (callQ (.call 127 [a0, (.bool false)] false none H nx) (fun x169 H nx =>
 .ret ⟨.ret (.tuple ⟨[]⟩), false, H, nx⟩) panK)) .bad) .bad) .bad) .bad) .bad)) (callQ (.call 127 [a0, (.bool false)] false none H nx) (fun x177 H nx =>
 .ret ⟨.ret (.tuple ⟨[]⟩), false, H, nx⟩) panK)) .bad) .bad) .bad) .bad)) (optK (rdFieldAddr P 44 (some (eptrV a1)) 2) (fun x103 =>
 optK (rdLoad P H 9 (some x103)) (fun x104 =>
 optK (rdBin P H .eql 9 true (some x104) (some (.string ⟨⟨[]⟩⟩))) (fun x105 =>
 bvK x105 (fun b106 => bK b106 (bK a4 (bK a5 (bK a6 (callQ (.call 127 [a0, (.bool true)] false none H nx) (fun x151 H nx =>
 .ret ⟨.ret (.tuple ⟨[]⟩), false, H, nx⟩) panK) (optK (rdFieldAddr P 44 (some (eptrV a1)) 5) (fun x145 =>
 optK (rdLoad P H 24 (some x145)) (fun x146 =>
 optK (rdLen P #[24] 3 (some [x146])) (fun x147 =>
 optK (rdBin P H .eql 3 true (some x147) (some (.int .i64 0))) (fun x148 =>
 bvK x148 (fun b149 => callQ (.call 127 [a0, (.bool b149)] false none H nx) (fun x150 H nx =>
 .ret ⟨.ret (.tuple ⟨[]⟩), false, H, nx⟩) panK) .bad) .bad) .bad) .bad) .bad)) (optK (rdFieldAddr P 44 (some (eptrV a1)) 4) (fun x132 =>
 optK (rdLoad P H 42 (some x132)) (fun x133 =>
 optK (rdLen P #[42] 3 (some [x133])) (fun x134 =>
 optK (rdBin P H .eql 3 true (some x134) (some (.int .i64 0))) (fun x135 =>
 bvK x135 (fun b136 => bK b136 (bK a6 (callQ (.call 127 [a0, (.bool true)] false none H nx) (fun x143 H nx =>
 .ret ⟨.ret (.tuple ⟨[]⟩), false, H, nx⟩) panK) (optK (rdFieldAddr P 44 (some (eptrV a1)) 5) (fun x137 =>
 optK (rdLoad P H 24 (some x137)) (fun x138 =>
 optK (rdLen P #[24] 3 (some [x138])) (fun x139 =>
 optK (rdBin P H .eql 3 true (some x139) (some (.int .i64 0))) (fun x140 =>
 bvK x140 (fun b141 => callQ (.call 127 [a0, (.bool b141)] false none H nx) (fun x142 H nx =>
 .ret ⟨.ret (.tuple ⟨[]⟩), false, H, nx⟩) panK) .bad) .bad) .bad) .bad) .bad)) (callQ (.call 127 [a0, (.bool false)] false none H nx) (fun x144 H nx =>
 .ret ⟨.ret (.tuple ⟨[]⟩), false, H, nx⟩) panK)) .bad) .bad) .bad) .bad) .bad)) (optK (rdFieldAddr P 44 (some (eptrV a1)) 1) (fun x107 =>
 optK (rdLoad P H 2 (some x107)) (fun x108 =>
 optK (rdBin P H .eql 2 true (some x108) (some (.int .i64 0))) (fun x109 =>
 bvK x109 (fun b110 => bK b110 (bK a5 (bK a6 (callQ (.call 127 [a0, (.bool true)] false none H nx) (fun x130 H nx =>
 .ret ⟨.ret (.tuple ⟨[]⟩), false, H, nx⟩) panK) (optK (rdFieldAddr P 44 (some (eptrV a1)) 5) (fun x124 =>
 optK (rdLoad P H 24 (some x124)) (fun x125 =>
 optK (rdLen P #[24] 3 (some [x125])) (fun x126 =>
 optK (rdBin P H .eql 3 true (some x126) (some (.int .i64 0))) (fun x127 =>
 bvK x127 (fun b128 => callQ (.call 127 [a0, (.bool b128)] false none H nx) (fun x129 H nx =>
 .ret ⟨.ret (.tuple ⟨[]⟩), false, H, nx⟩) panK) .bad) .bad) .bad) .bad) .bad)) (optK (rdFieldAddr P 44 (some (eptrV a1)) 4) (fun x111 =>
 optK (rdLoad P H 42 (some x111)) (fun x112 =>
 optK (rdLen P #[42] 3 (some [x112])) (fun x113 =>
 optK (rdBin P H .eql 3 true (some x113) (some (.int .i64 0))) (fun x114 =>
 bvK x114 (fun b115 => bK b115 (bK a6 (callQ (.call 127 [a0, (.bool true)] false none H nx) (fun x122 H nx =>
 .ret ⟨.ret (.tuple ⟨[]⟩), false, H, nx⟩) panK) (optK (rdFieldAddr P 44 (some (eptrV a1)) 5) (fun x116 =>
 optK (rdLoad P H 24 (some x116)) (fun x117 =>
 optK (rdLen P #[24] 3 (some [x117])) (fun x118 =>
 optK (rdBin P H .eql 3 true (some x118) (some (.int .i64 0))) (fun x119 =>
 bvK x119 (fun b120 => callQ (.call 127 [a0, (.bool b120)] false none H nx) (fun x121 H nx =>
 .ret ⟨.ret (.tuple ⟨[]⟩), false, H, nx⟩) panK) .bad) .bad) .bad) .bad) .bad)) (callQ (.call 127 [a0, (.bool false)] false none H nx) (fun x123 H nx =>
 .ret ⟨.ret (.tuple ⟨[]⟩), false, H, nx⟩) panK)) .bad) .bad) .bad) .bad) .bad)) (callQ (.call 127 [a0, (.bool false)] false none H nx) (fun x131 H nx =>
 .ret ⟨.ret (.tuple ⟨[]⟩), false, H, nx⟩) panK)) .bad) .bad) .bad) .bad)) (callQ (.call 127 [a0, (.bool false)] false none H nx) (fun x152 H nx =>
 .ret ⟨.ret (.tuple ⟨[]⟩), false, H, nx⟩) panK)) .bad) .bad) .bad) .bad)) (optK (rdFieldAddr P 44 (some (eptrV a1)) 3) (fun x2 =>
 optK (rdLoad P H 41 (some x2)) (fun x3 =>
 optK (rdLen P #[41] 3 (some [x3])) (fun x4 =>
 optK (rdBin P H .eql 3 false (some x4) (some a2)) (fun x5 =>
 bvK x5 (fun b6 => bK b6 (bK a3 (bK a4 (bK a5 (bK a6 (callQ (.call 127 [a0, (.bool true)] false none H nx) (fun x101 H nx =>
 .ret ⟨.ret (.tuple ⟨[]⟩), false, H, nx⟩) panK) (optK (rdFieldAddr P 44 (some (eptrV a1)) 5) (fun x95 =>
 optK (rdLoad P H 24 (some x95)) (fun x96 =>
 optK (rdLen P #[24] 3 (some [x96])) (fun x97 =>
 optK (rdBin P H .eql 3 true (some x97) (some (.int .i64 0))) (fun x98 =>
 bvK x98 (fun b99 => callQ (.call 127 [a0, (.bool b99)] false none H nx) (fun x100 H nx =>
 .ret ⟨.ret (.tuple ⟨[]⟩), false, H, nx⟩) panK) .bad) .bad) .bad) .bad) .bad)) (optK (rdFieldAddr P 44 (some (eptrV a1)) 4) (fun x82 =>
 optK (rdLoad P H 42 (some x82)) (fun x83 =>
 optK (rdLen P #[42] 3 (some [x83])) (fun x84 =>
 optK (rdBin P H .eql 3 true (some x84) (some (.int .i64 0))) (fun x85 =>
 bvK x85 (fun b86 => bK b86 (bK a6 (callQ (.call 127 [a0, (.bool true)] false none H nx) (fun x93 H nx =>
 .ret ⟨.ret (.tuple ⟨[]⟩), false, H, nx⟩) panK) (optK (rdFieldAddr P 44 (some (eptrV a1)) 5) (fun x87 =>
 optK (rdLoad P H 24 (some x87)) (fun x88 =>
 optK (rdLen P #[24] 3 (some [x88])) (fun x89 =>
 optK (rdBin P H .eql 3 true (some x89) (some (.int .i64 0))) (fun x90 =>
 bvK x90 (fun b91 => callQ (.call 127 [a0, (.bool b91)] false none H nx) (fun x92 H nx =>
 .ret ⟨.ret (.tuple ⟨[]⟩), false, H, nx⟩) panK) .bad) .bad) .bad) .bad) .bad)) (callQ (.call 127 [a0, (.bool false)] false none H nx) (fun x94 H nx =>
 .ret ⟨.ret (.tuple ⟨[]⟩), false, H, nx⟩) panK)) .bad) .bad) .bad) .bad) .bad)) (optK (rdFieldAddr P 44 (some (eptrV a1)) 1) (fun x57 =>
 optK (rdLoad P H 2 (some x57)) (fun x58 =>
 optK (rdBin P H .eql 2 true (some x58) (some (.int .i64 0))) (fun x59 =>
 bvK x59 (fun b60 => bK b60 (bK a5 (bK a6 (callQ (.call 127 [a0, (.bool true)] false none H nx) (fun x80 H nx =>
 .ret ⟨.ret (.tuple ⟨[]⟩), false, H, nx⟩) panK) (optK (rdFieldAddr P 44 (some (eptrV a1)) 5) (fun x74 =>
 optK (rdLoad P H 24 (some x74)) (fun x75 =>
 optK (rdLen P #[24] 3 (some [x75])) (fun x76 =>
 optK (rdBin P H .eql 3 true (some x76) (some (.int .i64 0))) (fun x77 =>
 bvK x77 (fun b78 => callQ (.call 127 [a0, (.bool b78)] false none H nx) (fun x79 H nx =>
 .ret ⟨.ret (.tuple ⟨[]⟩), false, H, nx⟩) panK) .bad) .bad) .bad) .bad) .bad)) (optK (rdFieldAddr P 44 (some (eptrV a1)) 4) (fun x61 =>
 optK (rdLoad P H 42 (some x61)) (fun x62 =>
 optK (rdLen P #[42] 3 (some [x62])) (fun x63 =>
 optK (rdBin P H .eql 3 true (some x63) (some (.int .i64 0))) (fun x64 =>
 bvK x64 (fun b65 => bK b65 (bK a6 (callQ (.call 127 [a0, (.bool true)] false none H nx) (fun x72 H nx =>
 .ret ⟨.ret (.tuple ⟨[]⟩), false, H, nx⟩) panK) (optK (rdFieldAddr P 44 (some (eptrV a1)) 5) (fun x66 =>
 optK (rdLoad P H 24 (some x66)) (fun x67 =>
 optK (rdLen P #[24] 3 (some [x67])) (fun x68 =>
 optK (rdBin P H .eql 3 true (some x68) (some (.int .i64 0))) (fun x69 =>
 bvK x69 (fun b70 => callQ (.call 127 [a0, (.bool b70)] false none H nx) (fun x71 H nx =>
 .ret ⟨.ret (.tuple ⟨[]⟩), false, H, nx⟩) panK) .bad) .bad) .bad) .bad) .bad)) (callQ (.call 127 [a0, (.bool false)] false none H nx) (fun x73 H nx =>
 .ret ⟨.ret (.tuple ⟨[]⟩), false, H, nx⟩) panK)) .bad) .bad) .bad) .bad) .bad)) (callQ (.call 127 [a0, (.bool false)] false none H nx) (fun x81 H nx =>
 .ret ⟨.ret (.tuple ⟨[]⟩), false, H, nx⟩) panK)) .bad) .bad) .bad) .bad)) (optK (rdFieldAddr P 44 (some (eptrV a1)) 2) (fun x7 =>
 optK (rdLoad P H 9 (some x7)) (fun x8 =>
 optK (rdBin P H .eql 9 true (some x8) (some (.string ⟨⟨[]⟩⟩))) (fun x9 =>
 bvK x9 (fun b10 => bK b10 (bK a4 (bK a5 (bK a6 (callQ (.call 127 [a0, (.bool true)] false none H nx) (fun x55 H nx =>
 .ret ⟨.ret (.tuple ⟨[]⟩), false, H, nx⟩) panK) (optK (rdFieldAddr P 44 (some (eptrV a1)) 5) (fun x49 =>
 optK (rdLoad P H 24 (some x49)) (fun x50 =>
 optK (rdLen P #[24] 3 (some [x50])) (fun x51 =>
 optK (rdBin P H .eql 3 true (some x51) (some (.int .i64 0))) (fun x52 =>
 bvK x52 (fun b53 => callQ (.call 127 [a0, (.bool b53)] false none H nx) (fun x54 H nx =>
 .ret ⟨.ret (.tuple ⟨[]⟩), false, H, nx⟩) panK) .bad) .bad) .bad) .bad) .bad)) (optK (rdFieldAddr P 44 (some (eptrV a1)) 4) (fun x36 =>
 optK (rdLoad P H 42 (some x36)) (fun x37 =>
 optK (rdLen P #[42] 3 (some [x37])) (fun x38 =>
 optK (rdBin P H .eql 3 true (some x38) (some (.int .i64 0))) (fun x39 =>
 bvK x39 (fun b40 => bK b40 (bK a6 (callQ (.call 127 [a0, (.bool true)] false none H nx) (fun x47 H nx =>
 .ret ⟨.ret (.tuple ⟨[]⟩), false, H, nx⟩) panK) (optK (rdFieldAddr P 44 (some (eptrV a1)) 5) (fun x41 =>
 optK (rdLoad P H 24 (some x41)) (fun x42 =>
 optK (rdLen P #[24] 3 (some [x42])) (fun x43 =>
 optK (rdBin P H .eql 3 true (some x43) (some (.int .i64 0))) (fun x44 =>
 bvK x44 (fun b45 => callQ (.call 127 [a0, (.bool b45)] false none H nx) (fun x46 H nx =>
 .ret ⟨.ret (.tuple ⟨[]⟩), false, H, nx⟩) panK) .bad) .bad) .bad) .bad) .bad)) (callQ (.call 127 [a0, (.bool false)] false none H nx) (fun x48 H nx =>
 .ret ⟨.ret (.tuple ⟨[]⟩), false, H, nx⟩) panK)) .bad) .bad) .bad) .bad) .bad)) (optK (rdFieldAddr P 44 (some (eptrV a1)) 1) (fun x11 =>
 optK (rdLoad P H 2 (some x11)) (fun x12 =>
 optK (rdBin P H .eql 2 true (some x12) (some (.int .i64 0))) (fun x13 =>
 bvK x13 (fun b14 => bK b14 (bK a5 (bK a6 (callQ (.call 127 [a0, (.bool true)] false none H nx) (fun x34 H nx =>
 .ret ⟨.ret (.tuple ⟨[]⟩), false, H, nx⟩) panK) (optK (rdFieldAddr P 44 (some (eptrV a1)) 5) (fun x28 =>
 optK (rdLoad P H 24 (some x28)) (fun x29 =>
 optK (rdLen P #[24] 3 (some [x29])) (fun x30 =>
 optK (rdBin P H .eql 3 true (some x30) (some (.int .i64 0))) (fun x31 =>
 bvK x31 (fun b32 => callQ (.call 127 [a0, (.bool b32)] false none H nx) (fun x33 H nx =>
 .ret ⟨.ret (.tuple ⟨[]⟩), false, H, nx⟩) panK) .bad) .bad) .bad) .bad) .bad)) (optK (rdFieldAddr P 44 (some (eptrV a1)) 4) (fun x15 =>
 optK (rdLoad P H 42 (some x15)) (fun x16 =>
 optK (rdLen P #[42] 3 (some [x16])) (fun x17 =>
 optK (rdBin P H .eql 3 true (some x17) (some (.int .i64 0))) (fun x18 =>
 bvK x18 (fun b19 => bK b19 (bK a6 (callQ (.call 127 [a0, (.bool true)] false none H nx) (fun x26 H nx =>
 .ret ⟨.ret (.tuple ⟨[]⟩), false, H, nx⟩) panK) (optK (rdFieldAddr P 44 (some (eptrV a1)) 5) (fun x20 =>
 optK (rdLoad P H 24 (some x20)) (fun x21 =>
 optK (rdLen P #[24] 3 (some [x21])) (fun x22 =>
 optK (rdBin P H .eql 3 true (some x22) (some (.int .i64 0))) (fun x23 =>
 bvK x23 (fun b24 => callQ (.call 127 [a0, (.bool b24)] false none H nx) (fun x25 H nx =>
 .ret ⟨.ret (.tuple ⟨[]⟩), false, H, nx⟩) panK) .bad) .bad) .bad) .bad) .bad)) (callQ (.call 127 [a0, (.bool false)] false none H nx) (fun x27 H nx =>
 .ret ⟨.ret (.tuple ⟨[]⟩), false, H, nx⟩) panK)) .bad) .bad) .bad) .bad) .bad)) (callQ (.call 127 [a0, (.bool false)] false none H nx) (fun x35 H nx =>
 .ret ⟨.ret (.tuple ⟨[]⟩), false, H, nx⟩) panK)) .bad) .bad) .bad) .bad)) (callQ (.call 127 [a0, (.bool false)] false none H nx) (fun x56 H nx =>
 .ret ⟨.ret (.tuple ⟨[]⟩), false, H, nx⟩) panK)) .bad) .bad) .bad) .bad)) (callQ (.call 127 [a0, (.bool false)] false none H nx) (fun x102 H nx =>
 .ret ⟨.ret (.tuple ⟨[]⟩), false, H, nx⟩) panK)) .bad) .bad) .bad) .bad) .bad)) .bad) .bad) := by kernel_rfl
def l165_5 (t0 t2 t8 t9 t10 : Value) (H : T OB) (nx : Nat) : Cfg := .at ⟨165, 26, false, [], none, false⟩ (tmOf [(0, t0), (2, t2), (8, t8), (9, t9), (10, t10)]) (todoOf P 165 5) H nx
def l165_12 (t0 t2 t7 t8 t9 t10 : Value) (H : T OB) (nx : Nat) : Cfg := .at ⟨165, 26, false, [], none, false⟩ (tmOf [(0, t0), (2, t2), (7, t7), (8, t8), (9, t9), (10, t10)]) (todoOf P 165 12) H nx
theorem q165 (a0 a1 a2 : Value) (H : T OB) (nx : Nat) : evT P pl (.call 165 [a0, a1, a2] false none H nx) =
 optK (rdLen P #[41] 3 (some [a1])) (fun x0 =>
 .jump (l165_5 a0 a2 a1 x0 (.int .i64 0) H nx)) .bad := by kernel_rfl
theorem q165_5 (t0 t2 t8 t9 t10 : Value) (H : T OB) (nx : Nat) : evT P pl (l165_5 t0 t2 t8 t9 t10 H nx) =
 optK (rdBin P H .lss 3 false (some t10) (some t9)) (fun x0 =>
 bvK x0 (fun b1 => bK b1
 (optK (rdIndexAddr P 41 (some t8) (some t10)) (fun x2 =>
  optK (rdLoad P H 44 (some x2)) (fun x3 =>
  effQ (efAlloc P H nx 44) (fun x4 H nx =>
  frSt P H nx 44 (some x4) x3 (fun H nx =>
  optK (rdBin P H .gtr 3 true (some t10) (some (.int .i64 0))) (fun x5 =>
  bvK x5 (fun b6 => bK b6
 (callQ (.call 77 [t2] false none H nx) (fun x7 H nx =>
  effQ (efBuildSlice P H nx 29 1 (some [(0, x7)])) (fun x8 H nx =>
  callQ (.call 76 [t0, x8] false none H nx) (fun x9 H nx =>
  .jump (l165_12 t0 t2 (eptrV x3) t8 t9 t10 H nx)) panK)) panK)
 (.jump (l165_12 t0 t2 (eptrV x3) t8 t9 t10 H nx))) .bad) .bad))) .bad) .bad)
 (.ret ⟨.ret (.tuple ⟨[]⟩), false, H, nx⟩)) .bad) .bad := by kernel_rfl
theorem q165_12 (t0 t2 t7 t8 t9 t10 : Value) (H : T OB) (nx : Nat) : evT P pl (l165_12 t0 t2 t7 t8 t9 t10 H nx) =
 optK (rdLoad P H 44 (some t7)) (fun x0 =>
 callQ (.call 168 [t0, x0] false none H nx) (fun x1 H nx =>
 optK (rdBin P H .add 3 true (some t10) (some (.int .i64 1))) (fun x2 =>
 .jump (l165_5 t0 t2 t8 t9 x2 H nx)) .bad) panK) .bad := by kernel_rfl
def l166_13 (t0 t3 t19 t20 t21 : Value) (H : T OB) (nx : Nat) : Cfg := .at ⟨166, 74, false, [], none, false⟩ (tmOf [(0, t0), (3, t3), (19, t19), (20, t20), (21, t21)]) (todoOf P 166 13) H nx
def l166_18 (t0 t3 t5 t19 t20 t21 : Value) (H : T OB) (nx : Nat) : Cfg := .at ⟨166, 74, false, [], none, false⟩ (tmOf [(0, t0), (3, t3), (5, t5), (19, t19), (20, t20), (21, t21)]) (todoOf P 166 18) H nx
def l166_38 (t0 : Value) (H : T OB) (nx : Nat) : Cfg := .at ⟨166, 74, false, [], none, false⟩ (tmOf [(0, t0)]) (todoOf P 166 38) H nx
theorem q166 (a0 a1 : Value) (H : T OB) (nx : Nat) : evT P pl (.call 166 [a0, a1] false none H nx) =
 natF (Nat.succ nx) (fun nx =>
 optK (rdLoad P H 44 (some (eptrV a1))) (fun x0 =>
 callQ (.call 164 [a0, x0, (.int .i64 1), (.bool false), (.bool false), (.bool false), (.bool true)] false none H nx) (fun x1 H nx =>
 optK (rdNil (some a0)) (fun x2 =>
 optK (rdFieldAddr P 116 (some x2) 1) (fun x3 =>
 optK (rdLoad P H 4 (some x3)) (fun x4 =>
 bvK x4 (fun b5 => bK b5
 (.ret ⟨.ret (.tuple ⟨[]⟩), false, H, nx⟩)
 (callQ (.call 129 [(.string ⟨⟨[108, 101, 116]⟩⟩)] false none H nx) (fun x6 H nx =>
  effQ (efBuildSlice P H nx 29 1 (some [(0, x6)])) (fun x7 H nx =>
  callQ (.call 76 [a0, x7] false none H nx) (fun x8 H nx =>
  optK (rdFieldAddr P 44 (some (eptrV a1)) 5) (fun x9 =>
  optK (rdLoad P H 24 (some x9)) (fun x10 =>
  optK (rdLen P #[24] 3 (some [x10])) (fun x11 =>
  .jump (l166_13 a0 (eptrV a1) x10 x11 (.int .i64 0) H nx)) .bad) .bad) .bad) panK)) panK)) .bad) .bad) .bad) .bad) panK) .bad) := by kernel_rfl
theorem q166_13 (t0 t3 t19 t20 t21 : Value) (H : T OB) (nx : Nat) : evT P pl (l166_13 t0 t3 t19 t20 t21 H nx) =
 optK (rdBin P H .lss 3 false (some t21) (some t20)) (fun x0 =>
 bvK x0 (fun b1 => bK b1
 (optK (rdIndexAddr P 24 (some t19) (some t21)) (fun x2 =>
  optK (rdLoad P H 57 (some x2)) (fun x3 =>
  effQ (efAlloc P H nx 57) (fun x4 H nx =>
  frSt P H nx 57 (some x4) x3 (fun H nx =>
  optK (rdFieldAddr P 57 (some (eptrV x3)) 0) (fun x5 =>
  optK (rdLoad P H 3 (some x5)) (fun x6 =>
  optK (rdBin P H .eql 3 true (some x6) (some (.int .i64 1))) (fun x7 =>
  bvK x7 (fun b8 => bK b8 (callQ (.call 127 [t0, (.bool true)] false none H nx) (fun x14 H nx =>
  .jump (l166_18 t0 t3 (eptrV x3) t19 t20 t21 H nx)) panK) (optK (rdFieldAddr P 57 (some (eptrV x3)) 0) (fun x9 =>
  optK (rdLoad P H 3 (some x9)) (fun x10 =>
  optK (rdBin P H .eql 3 true (some x10) (some (.int .i64 2))) (fun x11 =>
  bvK x11 (fun b12 => callQ (.call 127 [t0, (.bool b12)] false none H nx) (fun x13 H nx =>
  .jump (l166_18 t0 t3 (eptrV x3) t19 t20 t21 H nx)) panK) .bad) .bad) .bad) .bad)) .bad) .bad) .bad) .bad))) .bad) .bad)
 (callQ (.call 129 [(.string ⟨⟨[105, 110]⟩⟩)] false none H nx) (fun x15 H nx =>
  effQ (efBuildSlice P H nx 29 1 (some [(0, x15)])) (fun x16 H nx =>
  callQ (.call 76 [t0, x16] false none H nx) (fun x17 H nx =>
  optK (rdFieldAddr P 44 (some t3) 3) (fun x18 =>
  optK (rdLoad P H 41 (some x18)) (fun x19 =>
  optK (rdIndexAddr P 41 (some x19) (some (.int .i64 0))) (fun x20 =>
  optK (rdLoad P H 44 (some x20)) (fun x21 =>
  effQ (efAlloc P H nx 44) (fun x22 H nx =>
  frSt P H nx 44 (some x22) x21 (fun H nx =>
  optK (rdFieldAddr P 44 (some (eptrV x21)) 0) (fun x23 =>
  optK (rdLoad P H 3 (some x23)) (fun x24 =>
  optK (rdBin P H .eql 3 true (some x24) (some (.int .i64 13))) (fun x25 =>
  bvK x25 (fun b26 => bK b26
 (optK (rdLoad P H 44 (some (eptrV x21))) (fun x27 =>
  callQ (.call 164 [t0, x27, (.int .i64 (-1)), (.bool false), (.bool false), (.bool false), (.bool false)] false none H nx) (fun x28 H nx =>
  optK (rdFieldAddr P 44 (some (eptrV x21)) 3) (fun x29 =>
  optK (rdLoad P H 41 (some x29)) (fun x30 =>
  optK (rdLen P #[41] 3 (some [x30])) (fun x31 =>
  optK (rdBin P H .gtr 3 true (some x31) (some (.int .i64 1))) (fun x32 =>
  bvK x32 (fun b33 => callQ (.call 127 [t0, (.bool b33)] false none H nx) (fun x34 H nx =>
  optK (rdFieldAddr P 44 (some (eptrV x21)) 3) (fun x35 =>
  optK (rdLoad P H 41 (some x35)) (fun x36 =>
  callQ (.call 165 [t0, x36, (.string ⟨⟨[59]⟩⟩)] false none H nx) (fun x37 H nx =>
  .jump (l166_38 t0 H nx)) panK) .bad) .bad) panK) .bad) .bad) .bad) .bad) .bad) panK) .bad)
 (optK (rdLoad P H 44 (some (eptrV x21))) (fun x38 =>
  callQ (.call 168 [t0, x38] false none H nx) (fun x39 H nx =>
  .jump (l166_38 t0 H nx)) panK) .bad)) .bad) .bad) .bad) .bad))) .bad) .bad) .bad) .bad) panK)) panK)) .bad) .bad := by kernel_rfl
theorem q166_18 (t0 t3 t5 t19 t20 t21 : Value) (H : T OB) (nx : Nat) : evT P pl (l166_18 t0 t3 t5 t19 t20 t21 H nx) =
 optK (rdLoad P H 57 (some t5)) (fun x0 =>
 callQ (.call 75 [t0, x0] false none H nx) (fun x1 H nx =>
 callQ (.call 77 [(.string ⟨⟨[59]⟩⟩)] false none H nx) (fun x2 H nx =>
 effQ (efBuildSlice P H nx 29 1 (some [(0, x2)])) (fun x3 H nx =>
 callQ (.call 76 [t0, x3] false none H nx) (fun x4 H nx =>
 optK (rdBin P H .add 3 true (some t21) (some (.int .i64 1))) (fun x5 =>
 .jump (l166_13 t0 t3 t19 t20 x5 H nx)) .bad) panK)) panK) panK) .bad := by kernel_rfl
theorem q166_38 (t0 : Value) (H : T OB) (nx : Nat) : evT P pl (l166_38 t0 H nx) =
 callQ (.call 129 [(.string ⟨⟨[101, 110, 100]⟩⟩)] false none H nx) (fun x0 H nx =>
 effQ (efBuildSlice P H nx 29 1 (some [(0, x0)])) (fun x1 H nx =>
 callQ (.call 76 [t0, x1] false none H nx) (fun x2 H nx =>
 .ret ⟨.ret (.tuple ⟨[]⟩), false, H, nx⟩) panK)) panK := by kernel_rfl
end
end Go.Proofs.YthjhonhhbddhkaaGreatDoor
/- What functions of the program say, as trees. -/
namespace Go.Proofs.YthjhonhhbddhkaaGreatDoor
open Go.Ev Go.RowKit
noncomputable section
set_option linter.unusedVariables false
set_option maxHeartbeats 8000000
def l167_7 (t0 t5 t6 : Value) (H : T OB) (nx : Nat) : Cfg := .at ⟨167, 13, false, [], none, false⟩ (tmOf [(0, t0), (5, t5), (6, t6)]) (todoOf P 167 7) H nx
theorem q167 (a0 : Value) (H : T OB) (nx : Nat) : evT P pl (.call 167 [a0] false none H nx) =
 optK (rdLoad P H 182 (some (.pointer (some ⟨2, 0, none⟩)))) (fun x0 =>
 .jump (l167_7 a0 x0 (.int .i64 0) H nx)) .bad := by kernel_rfl
theorem q167_7 (t0 t5 t6 : Value) (H : T OB) (nx : Nat) : evT P pl (l167_7 t0 t5 t6 H nx) =
 optK (rdBin P H .lss 3 true (some t6) (some (.int .i64 7))) (fun x0 =>
 bvK x0 (fun b1 => bK b1
 (optK (rdIndex P 182 (some t5) (some t6)) (fun x2 =>
  callQ (.call 153 [x2, t0] false none H nx) (fun x3 H nx =>
  bvK x3 (fun b4 => bK b4
 (.ret ⟨.ret (.bool true), false, H, nx⟩)
 (optK (rdBin P H .add 3 true (some t6) (some (.int .i64 1))) (fun x5 =>
  .jump (l167_7 t0 t5 x5 H nx)) .bad)) .bad) panK) .bad)
 (.ret ⟨.ret (.bool false), false, H, nx⟩)) .bad) .bad := by kernel_rfl
theorem q168 (a0 a1 : Value) (H : T OB) (nx : Nat) : evT P pl (.call 168 [a0, a1] false none H nx) =
 natF (Nat.succ nx) (fun nx =>
 optK (rdLoad P H 44 (some (eptrV a1))) (fun x0 =>
 callQ (.call 183 [x0] false none H nx) (fun x1 H nx =>
 bvK x1 (fun b2 => bK b2
 (optK (rdLoad P H 44 (some (eptrV a1))) (fun x3 =>
  callQ (.call 131 [a0, x3] false none H nx) (fun x4 H nx =>
  .ret ⟨.ret (.tuple ⟨[]⟩), false, H, nx⟩) panK) .bad)
 (callQ (.call 77 [(.string ⟨⟨[40]⟩⟩)] false none H nx) (fun x5 H nx =>
  effQ (efBuildSlice P H nx 29 1 (some [(0, x5)])) (fun x6 H nx =>
  callQ (.call 76 [a0, x6] false none H nx) (fun x7 H nx =>
  optK (rdLoad P H 44 (some (eptrV a1))) (fun x8 =>
  callQ (.call 131 [a0, x8] false none H nx) (fun x9 H nx =>
  callQ (.call 77 [(.string ⟨⟨[41]⟩⟩)] false none H nx) (fun x10 H nx =>
  effQ (efBuildSlice P H nx 29 1 (some [(0, x10)])) (fun x11 H nx =>
  callQ (.call 76 [a0, x11] false none H nx) (fun x12 H nx =>
  .ret ⟨.ret (.tuple ⟨[]⟩), false, H, nx⟩) panK)) panK) panK) .bad) panK)) panK)) .bad) panK) .bad) := by kernel_rfl
def l169_6 (t0 t2 : Value) (t10 : Bool) (H : T OB) (nx : Nat) : Cfg := .at ⟨169, 15, false, [], none, false⟩ (tmOf [(0, t0), (2, t2), (10, .bool t10)]) (todoOf P 169 6) H nx
theorem q169 (a0 : Value) (H : T OB) (nx : Nat) : evT P pl (.call 169 [a0] false none H nx) =
 effQ (efAlloc P H nx 31) (fun x0 H nx =>
 optK (rdIndex P 9 (some a0) (some (.int .i64 0))) (fun x1 =>
 optK (rdBin P H .geq 5 true (some x1) (some (.int .u8 97))) (fun x2 =>
 bvK x2 (fun b3 => bK b3 (optK (rdIndex P 9 (some a0) (some (.int .i64 0))) (fun x4 =>
 optK (rdBin P H .leq 5 true (some x4) (some (.int .u8 122))) (fun x5 =>
 bvK x5 (fun b6 => .jump (l169_6 a0 x0 b6 H nx)) .bad) .bad) .bad) (.jump (l169_6 a0 x0 false H nx))) .bad) .bad) .bad) := by kernel_rfl
theorem q169_6 (t0 t2 : Value) (t10 : Bool) (H : T OB) (nx : Nat) : evT P pl (l169_6 t0 t2 t10 H nx) =
 bK t10
 (callQ (.call 129 [t0] false none H nx) (fun x0 H nx =>
  effQ (efStore P H nx 31 (some t2) (some x0)) (fun x1 H nx =>
  optK (rdLoad P H 31 (some t2)) (fun x2 =>
  .ret ⟨.ret x2, false, H, nx⟩) .bad)) panK)
 (callQ (.call 77 [t0] false none H nx) (fun x3 H nx =>
  effQ (efStore P H nx 31 (some t2) (some x3)) (fun x4 H nx =>
  optK (rdLoad P H 31 (some t2)) (fun x5 =>
  .ret ⟨.ret x5, false, H, nx⟩) .bad)) panK) := by kernel_rfl
def l170_46 (t0 t3 : Value) (t77 : Bool) (H : T OB) (nx : Nat) : Cfg := .at ⟨170, 123, false, [], none, false⟩ (tmOf [(0, t0), (3, t3), (77, .bool t77)]) (todoOf P 170 46) H nx
def l170_56 (t0 t3 : Value) (H : T OB) (nx : Nat) : Cfg := .at ⟨170, 123, false, [], none, false⟩ (tmOf [(0, t0), (3, t3)]) (todoOf P 170 56) H nx
theorem q170 (a0 a1 : Value) (H : T OB) (nx : Nat) : evT P pl (.call 170 [a0, a1] false none H nx) =
 natF (Nat.succ nx) (fun nx =>
 optK (rdFieldAddr P 44 (some (eptrV a1)) 0) (fun x0 =>
 optK (rdLoad P H 3 (some x0)) (fun x1 =>
 optK (rdBin P H .eql 3 true (some x1) (some (.int .i64 8))) (fun x2 =>
 bvK x2 (fun b3 => bK b3
 (optK (rdLoad P H 44 (some (eptrV a1))) (fun x4 =>
  callQ (.call 164 [a0, x4, (.int .i64 3), (.bool false), (.bool false), (.bool false), (.bool false)] false none H nx) (fun x5 H nx =>
  optK (rdNil (some a0)) (fun x6 =>
  optK (rdFieldAddr P 116 (some x6) 1) (fun x7 =>
  optK (rdLoad P H 4 (some x7)) (fun x8 =>
  bvK x8 (fun b9 => optK (unV P .not (some (.bool b9))) (fun x10 =>
  bvK x10 (fun b11 => bK b11
 (callQ (.call 129 [(.string ⟨⟨[105, 102]⟩⟩)] false none H nx) (fun x12 H nx =>
  effQ (efBuildSlice P H nx 29 1 (some [(0, x12)])) (fun x13 H nx =>
  callQ (.call 76 [a0, x13] false none H nx) (fun x14 H nx =>
  optK (rdFieldAddr P 44 (some (eptrV a1)) 3) (fun x15 =>
  optK (rdLoad P H 41 (some x15)) (fun x16 =>
  optK (rdIndexAddr P 41 (some x16) (some (.int .i64 0))) (fun x17 =>
  optK (rdLoad P H 44 (some x17)) (fun x18 =>
  callQ (.call 168 [a0, x18] false none H nx) (fun x19 H nx =>
  callQ (.call 129 [(.string ⟨⟨[116, 104, 101, 110]⟩⟩)] false none H nx) (fun x20 H nx =>
  effQ (efBuildSlice P H nx 29 1 (some [(0, x20)])) (fun x21 H nx =>
  callQ (.call 76 [a0, x21] false none H nx) (fun x22 H nx =>
  optK (rdFieldAddr P 44 (some (eptrV a1)) 3) (fun x23 =>
  optK (rdLoad P H 41 (some x23)) (fun x24 =>
  optK (rdIndexAddr P 41 (some x24) (some (.int .i64 1))) (fun x25 =>
  optK (rdLoad P H 44 (some x25)) (fun x26 =>
  callQ (.call 168 [a0, x26] false none H nx) (fun x27 H nx =>
  callQ (.call 129 [(.string ⟨⟨[101, 108, 115, 101]⟩⟩)] false none H nx) (fun x28 H nx =>
  effQ (efBuildSlice P H nx 29 1 (some [(0, x28)])) (fun x29 H nx =>
  callQ (.call 76 [a0, x29] false none H nx) (fun x30 H nx =>
  optK (rdFieldAddr P 44 (some (eptrV a1)) 3) (fun x31 =>
  optK (rdLoad P H 41 (some x31)) (fun x32 =>
  optK (rdIndexAddr P 41 (some x32) (some (.int .i64 2))) (fun x33 =>
  optK (rdLoad P H 44 (some x33)) (fun x34 =>
  callQ (.call 168 [a0, x34] false none H nx) (fun x35 H nx =>
  .ret ⟨.ret (.tuple ⟨[]⟩), false, H, nx⟩) panK) .bad) .bad) .bad) .bad) panK)) panK) panK) .bad) .bad) .bad) .bad) panK)) panK) panK) .bad) .bad) .bad) .bad) panK)) panK)
 (.ret ⟨.ret (.tuple ⟨[]⟩), false, H, nx⟩)) .bad) .bad) .bad) .bad) .bad) .bad) panK) .bad)
 (optK (rdBin P H .eql 3 true (some x1) (some (.int .i64 11))) (fun x36 =>
  bvK x36 (fun b37 => bK b37
 (optK (rdLoad P H 44 (some (eptrV a1))) (fun x38 =>
  callQ (.call 164 [a0, x38, (.int .i64 1), (.bool false), (.bool false), (.bool false), (.bool false)] false none H nx) (fun x39 H nx =>
  callQ (.call 129 [(.string ⟨⟨[114, 97, 105, 115, 101]⟩⟩)] false none H nx) (fun x40 H nx =>
  effQ (efBuildSlice P H nx 29 1 (some [(0, x40)])) (fun x41 H nx =>
  callQ (.call 76 [a0, x41] false none H nx) (fun x42 H nx =>
  optK (rdFieldAddr P 44 (some (eptrV a1)) 3) (fun x43 =>
  optK (rdLoad P H 41 (some x43)) (fun x44 =>
  callQ (.call 165 [a0, x44, (.string ⟨⟨[59]⟩⟩)] false none H nx) (fun x45 H nx =>
  .ret ⟨.ret (.tuple ⟨[]⟩), false, H, nx⟩) panK) .bad) .bad) panK)) panK) panK) .bad)
 (optK (rdBin P H .eql 3 true (some x1) (some (.int .i64 7))) (fun x46 =>
  bvK x46 (fun b47 => bK b47
 (optK (rdLoad P H 44 (some (eptrV a1))) (fun x48 =>
  callQ (.call 164 [a0, x48, (.int .i64 (-1)), (.bool false), (.bool false), (.bool true), (.bool false)] false none H nx) (fun x49 H nx =>
  callQ (.call 129 [(.string ⟨⟨[102, 110]⟩⟩)] false none H nx) (fun x50 H nx =>
  effQ (efBuildSlice P H nx 29 1 (some [(0, x50)])) (fun x51 H nx =>
  callQ (.call 76 [a0, x51] false none H nx) (fun x52 H nx =>
  optK (rdFieldAddr P 44 (some (eptrV a1)) 4) (fun x53 =>
  optK (rdLoad P H 42 (some x53)) (fun x54 =>
  optK (rdFieldAddr P 44 (some (eptrV a1)) 3) (fun x55 =>
  optK (rdLoad P H 41 (some x55)) (fun x56 =>
  callQ (.call 184 [a0, x54, x56] false none H nx) (fun x57 H nx =>
  .ret ⟨.ret (.tuple ⟨[]⟩), false, H, nx⟩) panK) .bad) .bad) .bad) .bad) panK)) panK) panK) .bad)
 (optK (rdBin P H .eql 3 true (some x1) (some (.int .i64 9))) (fun x58 =>
  bvK x58 (fun b59 => bK b59
 (.jump (l170_46 a0 (eptrV a1) b59 H nx))
 (optK (rdBin P H .eql 3 true (some x1) (some (.int .i64 12))) (fun x60 =>
  bvK x60 (fun b61 => .jump (l170_46 a0 (eptrV a1) b61 H nx)) .bad) .bad)) .bad) .bad)) .bad) .bad)) .bad) .bad)) .bad) .bad) .bad) .bad) := by kernel_rfl
theorem q170_46 (t0 t3 : Value) (t77 : Bool) (H : T OB) (nx : Nat) : evT P pl (l170_46 t0 t3 t77 H nx) =
 bK t77
 (optK (rdLoad P H 44 (some t3)) (fun x0 =>
  callQ (.call 164 [t0, x0, (.int .i64 (-1)), (.bool false), (.bool false), (.bool true), (.bool false)] false none H nx) (fun x1 H nx =>
  optK (rdFieldAddr P 44 (some t3) 3) (fun x2 =>
  optK (rdLoad P H 41 (some x2)) (fun x3 =>
  optK (rdLen P #[41] 3 (some [x3])) (fun x4 =>
  optK (rdBin P H .gtr 3 true (some x4) (some (.int .i64 1))) (fun x5 =>
  bvK x5 (fun b6 => callQ (.call 127 [t0, (.bool b6)] false none H nx) (fun x7 H nx =>
  optK (rdNil (some t0)) (fun x8 =>
  optK (rdFieldAddr P 116 (some x8) 1) (fun x9 =>
  optK (rdLoad P H 4 (some x9)) (fun x10 =>
  bvK x10 (fun b11 => bK b11
 (.ret ⟨.ret (.tuple ⟨[]⟩), false, H, nx⟩)
 (optK (rdFieldAddr P 44 (some t3) 0) (fun x12 =>
  optK (rdLoad P H 3 (some x12)) (fun x13 =>
  optK (rdBin P H .eql 3 true (some x13) (some (.int .i64 9))) (fun x14 =>
  bvK x14 (fun b15 => bK b15
 (callQ (.call 129 [(.string ⟨⟨[99, 97, 115, 101]⟩⟩)] false none H nx) (fun x16 H nx =>
  effQ (efBuildSlice P H nx 29 1 (some [(0, x16)])) (fun x17 H nx =>
  callQ (.call 76 [t0, x17] false none H nx) (fun x18 H nx =>
  .jump (l170_56 t0 t3 H nx)) panK)) panK)
 (.jump (l170_56 t0 t3 H nx))) .bad) .bad) .bad) .bad)) .bad) .bad) .bad) .bad) panK) .bad) .bad) .bad) .bad) .bad) panK) .bad)
 (optK (rdNil (some t0)) (fun x19 =>
  optK (rdFieldAddr P 116 (some x19) 1) (fun x20 =>
  effQ (efStore P H nx 4 (some x20) (some (.bool true))) (fun x21 H nx =>
  .ret ⟨.ret (.tuple ⟨[]⟩), false, H, nx⟩)) .bad) .bad) := by kernel_rfl
theorem q170_56 (t0 t3 : Value) (H : T OB) (nx : Nat) : evT P pl (l170_56 t0 t3 H nx) =
 optK (rdFieldAddr P 44 (some t3) 3) (fun x0 =>
 optK (rdLoad P H 41 (some x0)) (fun x1 =>
 optK (rdIndexAddr P 41 (some x1) (some (.int .i64 0))) (fun x2 =>
 optK (rdLoad P H 44 (some x2)) (fun x3 =>
 callQ (.call 168 [t0, x3] false none H nx) (fun x4 H nx =>
 effQ (efMakeMap H nx) (fun x5 H nx =>
 effQ (efMapUpdate P H nx 163 (some x5) (some (.bool true)) (some (.string ⟨⟨[111, 102]⟩⟩))) (fun x6 H nx =>
 effQ (efMapUpdate P H nx 163 (some x5) (some (.bool false)) (some (.string ⟨⟨[104, 97, 110, 100, 108, 101]⟩⟩))) (fun x7 H nx =>
 optK (rdFieldAddr P 44 (some t3) 0) (fun x8 =>
 optK (rdLoad P H 3 (some x8)) (fun x9 =>
 optK (rdBin P H .eql 3 true (some x9) (some (.int .i64 9))) (fun x10 =>
 bvK x10 (fun b11 => optK (rdLookup P H 163 (some x5) (some (.bool b11)) false) (fun x12 =>
 callQ (.call 129 [x12] false none H nx) (fun x13 H nx =>
 effQ (efBuildSlice P H nx 29 1 (some [(0, x13)])) (fun x14 H nx =>
 callQ (.call 76 [t0, x14] false none H nx) (fun x15 H nx =>
 optK (rdFieldAddr P 44 (some t3) 4) (fun x16 =>
 optK (rdLoad P H 42 (some x16)) (fun x17 =>
 optK (rdFieldAddr P 44 (some t3) 3) (fun x18 =>
 optK (rdLoad P H 41 (some x18)) (fun x19 =>
 optK (rdSlice P H 41 (some x19) (some (some (.int .i64 1))) (some none) (some none)) (fun x20 =>
 callQ (.call 184 [t0, x17, x20] false none H nx) (fun x21 H nx =>
 .ret ⟨.ret (.tuple ⟨[]⟩), false, H, nx⟩) panK) .bad) .bad) .bad) .bad) .bad) panK)) panK) .bad) .bad) .bad) .bad) .bad)))) panK) .bad) .bad) .bad) .bad := by kernel_rfl
def l171_18 (t0 t3 t9 : Value) (t26 : Bool) (H : T OB) (nx : Nat) : Cfg := .at ⟨171, 114, false, [], none, false⟩ (tmOf [(0, t0), (3, t3), (9, t9), (26, .bool t26)]) (todoOf P 171 18) H nx
def l171_20 (t0 t3 : Value) (H : T OB) (nx : Nat) : Cfg := .at ⟨171, 114, false, [], none, false⟩ (tmOf [(0, t0), (3, t3)]) (todoOf P 171 20) H nx
def l171_40 (t0 t3 : Value) (H : T OB) (nx : Nat) : Cfg := .at ⟨171, 114, false, [], none, false⟩ (tmOf [(0, t0), (3, t3)]) (todoOf P 171 40) H nx
def l171_23 (t0 t3 t52 t53 t54 : Value) (H : T OB) (nx : Nat) : Cfg := .at ⟨171, 114, false, [], none, false⟩ (tmOf [(0, t0), (3, t3), (52, t52), (53, t53), (54, t54)]) (todoOf P 171 23) H nx
def l171_43 (t0 t3 t85 t86 t87 : Value) (H : T OB) (nx : Nat) : Cfg := .at ⟨171, 114, false, [], none, false⟩ (tmOf [(0, t0), (3, t3), (85, t85), (86, t86), (87, t87)]) (todoOf P 171 43) H nx
def l171_30 (t0 t3 t5 t52 t53 t54 : Value) (H : T OB) (nx : Nat) : Cfg := .at ⟨171, 114, false, [], none, false⟩ (tmOf [(0, t0), (3, t3), (5, t5), (52, t52), (53, t53), (54, t54)]) (todoOf P 171 30) H nx
def l171_50 (t0 t3 t7 t85 t86 t87 : Value) (H : T OB) (nx : Nat) : Cfg := .at ⟨171, 114, false, [], none, false⟩ (tmOf [(0, t0), (3, t3), (7, t7), (85, t85), (86, t86), (87, t87)]) (todoOf P 171 50) H nx
def l171_58 (t0 t3 : Value) (H : T OB) (nx : Nat) : Cfg := .at ⟨171, 114, false, [], none, false⟩ (tmOf [(0, t0), (3, t3)]) (todoOf P 171 58) H nx
theorem q171 (a0 a1 : Value) (H : T OB) (nx : Nat) : evT P pl (.call 171 [a0, a1] false none H nx) =
 natF (Nat.succ nx) (fun nx =>
 optK (rdFieldAddr P 138 (some (eptrV a1)) 0) (fun x0 =>
 optK (rdLoad P H 3 (some x0)) (fun x1 =>
 optK (rdBin P H .eql 3 true (some x1) (some (.int .i64 1))) (fun x2 =>
 bvK x2 (fun b3 => bK b3
 (optK (rdFieldAddr P 138 (some (eptrV a1)) 2) (fun x4 =>
  optK (rdLoad P H 53 (some x4)) (fun x5 =>
  optK (rdLen P #[53] 3 (some [x5])) (fun x6 =>
  optK (rdBin P H .eql 3 true (some x6) (some (.int .i64 0))) (fun x7 =>
  bvK x7 (fun b8 => callQ (.call 127 [a0, (.bool b8)] false none H nx) (fun x9 H nx =>
  optK (rdFieldAddr P 138 (some (eptrV a1)) 1) (fun x10 =>
  optK (rdLoad P H 9 (some x10)) (fun x11 =>
  optK (rdBuild P 31 (some [(0, (.int .i64 5)), (1, x11)])) (fun x12 =>
  callQ (.call 132 [a0, x12] false none H nx) (fun x13 H nx =>
  .ret ⟨.ret (.tuple ⟨[]⟩), false, H, nx⟩) panK) .bad) .bad) .bad) panK) .bad) .bad) .bad) .bad) .bad)
 (optK (rdBin P H .eql 3 true (some x1) (some (.int .i64 3))) (fun x14 =>
  bvK x14 (fun b15 => bK b15
 (.jump (l171_18 a0 (eptrV a1) x1 b15 H nx))
 (optK (rdBin P H .eql 3 true (some x1) (some (.int .i64 4))) (fun x16 =>
  bvK x16 (fun b17 => .jump (l171_18 a0 (eptrV a1) x1 b17 H nx)) .bad) .bad)) .bad) .bad)) .bad) .bad) .bad) .bad) := by kernel_rfl
theorem q171_18 (t0 t3 t9 : Value) (t26 : Bool) (H : T OB) (nx : Nat) : evT P pl (l171_18 t0 t3 t9 t26 H nx) =
 bK t26
 (optK (rdFieldAddr P 138 (some t3) 1) (fun x0 =>
  optK (rdLoad P H 9 (some x0)) (fun x1 =>
  optK (rdBin P H .eql 9 true (some x1) (some (.string ⟨⟨[]⟩⟩))) (fun x2 =>
  bvK x2 (fun b3 => bK b3 (optK (rdFieldAddr P 138 (some t3) 2) (fun x4 =>
  optK (rdLoad P H 53 (some x4)) (fun x5 =>
  optK (rdLen P #[53] 3 (some [x5])) (fun x6 =>
  optK (rdBin P H .geq 3 true (some x6) (some (.int .i64 2))) (fun x7 =>
  bvK x7 (fun b8 => bK b8 (optK (rdFieldAddr P 138 (some t3) 0) (fun x9 =>
  optK (rdLoad P H 3 (some x9)) (fun x10 =>
  optK (rdBin P H .eql 3 true (some x10) (some (.int .i64 4))) (fun x11 =>
  bvK x11 (fun b12 => bK b12 (callQ (.call 127 [t0, (.bool true)] false none H nx) (fun x19 H nx =>
  .jump (l171_20 t0 t3 H nx)) panK) (optK (rdFieldAddr P 138 (some t3) 2) (fun x13 =>
  optK (rdLoad P H 53 (some x13)) (fun x14 =>
  optK (rdLen P #[53] 3 (some [x14])) (fun x15 =>
  optK (rdBin P H .eql 3 true (some x15) (some (.int .i64 2))) (fun x16 =>
  bvK x16 (fun b17 => callQ (.call 127 [t0, (.bool b17)] false none H nx) (fun x18 H nx =>
  .jump (l171_20 t0 t3 H nx)) panK) .bad) .bad) .bad) .bad) .bad)) .bad) .bad) .bad) .bad) (callQ (.call 127 [t0, (.bool false)] false none H nx) (fun x20 H nx =>
  .jump (l171_20 t0 t3 H nx)) panK)) .bad) .bad) .bad) .bad) .bad) (callQ (.call 127 [t0, (.bool false)] false none H nx) (fun x21 H nx =>
  .jump (l171_20 t0 t3 H nx)) panK)) .bad) .bad) .bad) .bad)
 (optK (rdBin P H .eql 3 true (some t9) (some (.int .i64 2))) (fun x22 =>
  bvK x22 (fun b23 => bK b23
 (optK (rdFieldAddr P 138 (some t3) 2) (fun x24 =>
  optK (rdLoad P H 53 (some x24)) (fun x25 =>
  optK (rdLen P #[53] 3 (some [x25])) (fun x26 =>
  optK (rdBin P H .gtr 3 true (some x26) (some (.int .i64 1))) (fun x27 =>
  bvK x27 (fun b28 => bK b28
 (callQ (.call 77 [(.string ⟨⟨[40]⟩⟩)] false none H nx) (fun x29 H nx =>
  effQ (efBuildSlice P H nx 29 1 (some [(0, x29)])) (fun x30 H nx =>
  callQ (.call 76 [t0, x30] false none H nx) (fun x31 H nx =>
  .jump (l171_40 t0 t3 H nx)) panK)) panK)
 (.jump (l171_40 t0 t3 H nx))) .bad) .bad) .bad) .bad) .bad)
 (optK (rdNil (some t0)) (fun x32 =>
  optK (rdFieldAddr P 116 (some x32) 1) (fun x33 =>
  effQ (efStore P H nx 4 (some x33) (some (.bool true))) (fun x34 H nx =>
  .ret ⟨.ret (.tuple ⟨[]⟩), false, H, nx⟩)) .bad) .bad)) .bad) .bad) := by kernel_rfl
theorem q171_20 (t0 t3 : Value) (H : T OB) (nx : Nat) : evT P pl (l171_20 t0 t3 H nx) =
 optK (rdFieldAddr P 138 (some t3) 2) (fun x0 =>
 optK (rdLoad P H 53 (some x0)) (fun x1 =>
 optK (rdLen P #[53] 3 (some [x1])) (fun x2 =>
 .jump (l171_23 t0 t3 x1 x2 (.int .i64 0) H nx)) .bad) .bad) .bad := by kernel_rfl
theorem q171_40 (t0 t3 : Value) (H : T OB) (nx : Nat) : evT P pl (l171_40 t0 t3 H nx) =
 optK (rdFieldAddr P 138 (some t3) 2) (fun x0 =>
 optK (rdLoad P H 53 (some x0)) (fun x1 =>
 optK (rdLen P #[53] 3 (some [x1])) (fun x2 =>
 .jump (l171_43 t0 t3 x1 x2 (.int .i64 0) H nx)) .bad) .bad) .bad := by kernel_rfl
theorem q171_23 (t0 t3 t52 t53 t54 : Value) (H : T OB) (nx : Nat) : evT P pl (l171_23 t0 t3 t52 t53 t54 H nx) =
 optK (rdBin P H .lss 3 false (some t54) (some t53)) (fun x0 =>
 bvK x0 (fun b1 => bK b1
 (optK (rdIndexAddr P 53 (some t52) (some t54)) (fun x2 =>
  optK (rdLoad P H 138 (some x2)) (fun x3 =>
  effQ (efAlloc P H nx 138) (fun x4 H nx =>
  frSt P H nx 138 (some x4) x3 (fun H nx =>
  optK (rdBin P H .gtr 3 true (some t54) (some (.int .i64 0))) (fun x5 =>
  bvK x5 (fun b6 => bK b6
 (effQ (efMakeMap H nx) (fun x7 H nx =>
  effQ (efMapUpdate P H nx 187 (some x7) (some (.int .i64 3)) (some (.string ⟨⟨[45, 62]⟩⟩))) (fun x8 H nx =>
  effQ (efMapUpdate P H nx 187 (some x7) (some (.int .i64 4)) (some (.string ⟨⟨[42]⟩⟩))) (fun x9 H nx =>
  optK (rdFieldAddr P 138 (some t3) 0) (fun x10 =>
  optK (rdLoad P H 3 (some x10)) (fun x11 =>
  optK (rdLookup P H 187 (some x7) (some x11) false) (fun x12 =>
  callQ (.call 77 [x12] false none H nx) (fun x13 H nx =>
  effQ (efBuildSlice P H nx 29 1 (some [(0, x13)])) (fun x14 H nx =>
  callQ (.call 76 [t0, x14] false none H nx) (fun x15 H nx =>
  .jump (l171_30 t0 t3 (eptrV x3) t52 t53 t54 H nx)) panK)) panK) .bad) .bad) .bad))))
 (.jump (l171_30 t0 t3 (eptrV x3) t52 t53 t54 H nx))) .bad) .bad))) .bad) .bad)
 (.ret ⟨.ret (.tuple ⟨[]⟩), false, H, nx⟩)) .bad) .bad := by kernel_rfl
theorem q171_43 (t0 t3 t85 t86 t87 : Value) (H : T OB) (nx : Nat) : evT P pl (l171_43 t0 t3 t85 t86 t87 H nx) =
 optK (rdBin P H .lss 3 false (some t87) (some t86)) (fun x0 =>
 bvK x0 (fun b1 => bK b1
 (optK (rdIndexAddr P 53 (some t85) (some t87)) (fun x2 =>
  optK (rdLoad P H 138 (some x2)) (fun x3 =>
  effQ (efAlloc P H nx 138) (fun x4 H nx =>
  frSt P H nx 138 (some x4) x3 (fun H nx =>
  optK (rdBin P H .gtr 3 true (some t87) (some (.int .i64 0))) (fun x5 =>
  bvK x5 (fun b6 => bK b6
 (callQ (.call 77 [(.string ⟨⟨[44]⟩⟩)] false none H nx) (fun x7 H nx =>
  effQ (efBuildSlice P H nx 29 1 (some [(0, x7)])) (fun x8 H nx =>
  callQ (.call 76 [t0, x8] false none H nx) (fun x9 H nx =>
  .jump (l171_50 t0 t3 (eptrV x3) t85 t86 t87 H nx)) panK)) panK)
 (.jump (l171_50 t0 t3 (eptrV x3) t85 t86 t87 H nx))) .bad) .bad))) .bad) .bad)
 (optK (rdFieldAddr P 138 (some t3) 2) (fun x10 =>
  optK (rdLoad P H 53 (some x10)) (fun x11 =>
  optK (rdLen P #[53] 3 (some [x11])) (fun x12 =>
  optK (rdBin P H .gtr 3 true (some x12) (some (.int .i64 1))) (fun x13 =>
  bvK x13 (fun b14 => bK b14
 (callQ (.call 77 [(.string ⟨⟨[41]⟩⟩)] false none H nx) (fun x15 H nx =>
  effQ (efBuildSlice P H nx 29 1 (some [(0, x15)])) (fun x16 H nx =>
  callQ (.call 76 [t0, x16] false none H nx) (fun x17 H nx =>
  .jump (l171_58 t0 t3 H nx)) panK)) panK)
 (.jump (l171_58 t0 t3 H nx))) .bad) .bad) .bad) .bad) .bad)) .bad) .bad := by kernel_rfl
theorem q171_30 (t0 t3 t5 t52 t53 t54 : Value) (H : T OB) (nx : Nat) : evT P pl (l171_30 t0 t3 t5 t52 t53 t54 H nx) =
 optK (rdLoad P H 138 (some t5)) (fun x0 =>
 callQ (.call 185 [t0, x0] false none H nx) (fun x1 H nx =>
 optK (rdBin P H .add 3 true (some t54) (some (.int .i64 1))) (fun x2 =>
 .jump (l171_23 t0 t3 t52 t53 x2 H nx)) .bad) panK) .bad := by kernel_rfl
theorem q171_50 (t0 t3 t7 t85 t86 t87 : Value) (H : T OB) (nx : Nat) : evT P pl (l171_50 t0 t3 t7 t85 t86 t87 H nx) =
 optK (rdLoad P H 138 (some t7)) (fun x0 =>
 callQ (.call 185 [t0, x0] false none H nx) (fun x1 H nx =>
 optK (rdBin P H .add 3 true (some t87) (some (.int .i64 1))) (fun x2 =>
 .jump (l171_43 t0 t3 t85 t86 x2 H nx)) .bad) panK) .bad := by kernel_rfl
theorem q171_58 (t0 t3 : Value) (H : T OB) (nx : Nat) : evT P pl (l171_58 t0 t3 H nx) =
 optK (rdFieldAddr P 138 (some t3) 1) (fun x0 =>
 optK (rdLoad P H 9 (some x0)) (fun x1 =>
 callQ (.call 186 [t0, x1] false none H nx) (fun x2 H nx =>
 .ret ⟨.ret (.tuple ⟨[]⟩), false, H, nx⟩) panK) .bad) .bad := by kernel_rfl
def l172_20 (t1 : Value) (t5 : Bool) (H : T OB) (nx : Nat) : Cfg := .at ⟨172, 18, false, [], none, false⟩ (tmOf [(1, t1), (5, .bool t5)]) (todoOf P 172 20) H nx
theorem q172 (a0 : Value) (H : T OB) (nx : Nat) : evT P pl (.call 172 [a0] false none H nx) =
 natF (Nat.succ nx) (fun nx =>
 optK (rdFieldAddr P 44 (some (eptrV a0)) 0) (fun x0 =>
 optK (rdLoad P H 3 (some x0)) (fun x1 =>
 optK (rdBin P H .eql 3 true (some x1) (some (.int .i64 1))) (fun x2 =>
 bvK x2 (fun b3 => bK b3
 (.jump (l172_20 (eptrV a0) b3 H nx))
 (optK (rdBin P H .eql 3 true (some x1) (some (.int .i64 2))) (fun x4 =>
  bvK x4 (fun b5 => bK b5
 (.jump (l172_20 (eptrV a0) b5 H nx))
 (optK (rdBin P H .eql 3 true (some x1) (some (.int .i64 3))) (fun x6 =>
  bvK x6 (fun b7 => bK b7
 (.jump (l172_20 (eptrV a0) b7 H nx))
 (optK (rdBin P H .eql 3 true (some x1) (some (.int .i64 4))) (fun x8 =>
  bvK x8 (fun b9 => bK b9
 (.jump (l172_20 (eptrV a0) b9 H nx))
 (optK (rdBin P H .eql 3 true (some x1) (some (.int .i64 5))) (fun x10 =>
  bvK x10 (fun b11 => bK b11
 (.jump (l172_20 (eptrV a0) b11 H nx))
 (optK (rdBin P H .eql 3 true (some x1) (some (.int .i64 13))) (fun x12 =>
  bvK x12 (fun b13 => bK b13
 (.jump (l172_20 (eptrV a0) b13 H nx))
 (optK (rdBin P H .eql 3 true (some x1) (some (.int .i64 10))) (fun x14 =>
  bvK x14 (fun b15 => .jump (l172_20 (eptrV a0) b15 H nx)) .bad) .bad)) .bad) .bad)) .bad) .bad)) .bad) .bad)) .bad) .bad)) .bad) .bad)) .bad) .bad) .bad) .bad) := by kernel_rfl
theorem q172_20 (t1 : Value) (t5 : Bool) (H : T OB) (nx : Nat) : evT P pl (l172_20 t1 t5 H nx) =
 bK t5
 (optK (rdLoad P H 44 (some t1)) (fun x0 =>
  callQ (.call 81 [x0] false none H nx) (fun x1 H nx =>
  .ret ⟨.ret x1, false, H, nx⟩) panK) .bad)
 (optK (rdLoad P H 44 (some t1)) (fun x2 =>
  callQ (.call 81 [x2] false none H nx) (fun x3 H nx =>
  callQ (.call 85 [x3] false none H nx) (fun x4 H nx =>
  .ret ⟨.ret x4, false, H, nx⟩) panK) panK) .bad) := by kernel_rfl
def l173_9 (t0 t3 t4 : Value) (H : T OB) (nx : Nat) : Cfg := .at ⟨173, 47, false, [], none, false⟩ (tmOf [(0, t0), (3, t3), (4, t4)]) (todoOf P 173 9) H nx
def l173_16 (t0 t3 t4 t5 : Value) (t39 : Bool) (H : T OB) (nx : Nat) : Cfg := .at ⟨173, 47, false, [], none, false⟩ (tmOf [(0, t0), (3, t3), (4, t4), (5, t5), (39, .bool t39)]) (todoOf P 173 16) H nx
theorem q173 (a0 : Value) (H : T OB) (nx : Nat) : evT P pl (.call 173 [a0] false none H nx) =
 .jump (l173_9 a0 (.slice none 0 0) (.int .i64 0) H nx) := by kernel_rfl
theorem q173_9 (t0 t3 t4 : Value) (H : T OB) (nx : Nat) : evT P pl (l173_9 t0 t3 t4 H nx) =
 optK (rdLen P #[53] 3 (some [t0])) (fun x0 =>
 optK (rdBin P H .lss 3 false (some t4) (some x0)) (fun x1 =>
 bvK x1 (fun b2 => bK b2
 (optK (rdIndexAddr P 53 (some t0) (some t4)) (fun x3 =>
  optK (rdLoad P H 138 (some x3)) (fun x4 =>
  callQ (.call 140 [x4] false none H nx) (fun x5 H nx =>
  optK (rdIndexAddr P 53 (some t0) (some t4)) (fun x6 =>
  optK (rdFieldAddr P 138 (some x6) 0) (fun x7 =>
  optK (rdLoad P H 3 (some x7)) (fun x8 =>
  optK (rdBin P H .neq 3 true (some x8) (some (.int .i64 1))) (fun x9 =>
  bvK x9 (fun b10 => bK b10 (optK (rdIndexAddr P 53 (some t0) (some t4)) (fun x11 =>
  optK (rdFieldAddr P 138 (some x11) 0) (fun x12 =>
  optK (rdLoad P H 3 (some x12)) (fun x13 =>
  optK (rdBin P H .neq 3 true (some x13) (some (.int .i64 2))) (fun x14 =>
  bvK x14 (fun b15 => bK b15 (.jump (l173_16 t0 t3 t4 x5 true H nx)) (optK (rdIndexAddr P 53 (some t0) (some t4)) (fun x16 =>
  optK (rdFieldAddr P 138 (some x16) 2) (fun x17 =>
  optK (rdLoad P H 53 (some x17)) (fun x18 =>
  optK (rdLen P #[53] 3 (some [x18])) (fun x19 =>
  optK (rdBin P H .gtr 3 true (some x19) (some (.int .i64 0))) (fun x20 =>
  bvK x20 (fun b21 => .jump (l173_16 t0 t3 t4 x5 b21 H nx)) .bad) .bad) .bad) .bad) .bad) .bad)) .bad) .bad) .bad) .bad) .bad) (.jump (l173_16 t0 t3 t4 x5 false H nx))) .bad) .bad) .bad) .bad) .bad) panK) .bad) .bad)
 (frzV P 49 t3 H nx (fun x22 H nx =>
  .ret ⟨.ret x22, false, H, nx⟩))) .bad) .bad) .bad := by kernel_rfl
theorem q173_16 (t0 t3 t4 t5 : Value) (t39 : Bool) (H : T OB) (nx : Nat) : evT P pl (l173_16 t0 t3 t4 t5 t39 H nx) =
 bK t39
 (callQ (.call 85 [t5] false none H nx) (fun x0 H nx =>
  effQ (efBuildSlice P H nx 49 1 (some [(0, x0)])) (fun x1 H nx =>
  effQ (efAppS P H nx [49, 49] (some [t3, x1])) (fun x2 H nx =>
  optK (rdBin P H .add 3 true (some t4) (some (.int .i64 1))) (fun x3 =>
  .jump (l173_9 t0 x2 x3 H nx)) .bad))) panK)
 (effQ (efBuildSlice P H nx 49 1 (some [(0, t5)])) (fun x4 H nx =>
  effQ (efAppS P H nx [49, 49] (some [t3, x4])) (fun x5 H nx =>
  optK (rdBin P H .add 3 true (some t4) (some (.int .i64 1))) (fun x6 =>
  .jump (l173_9 t0 x5 x6 H nx)) .bad))) := by kernel_rfl
theorem q180 (a0 : Value) (H : T OB) (nx : Nat) : evT P pl (.call 180 [a0] false none H nx) =
 callQ (.call 144 [a0, (.int .u8 48), (.int .u8 57)] false none H nx) (fun x0 H nx =>
 bvK x0 (fun b1 => bK b1
 (optK (rdConv P H 5 3 (some a0)) (fun x2 =>
  optK (rdBin P H .sub 3 true (some x2) (some (.int .i64 48))) (fun x3 =>
  .ret ⟨.ret x3, false, H, nx⟩) .bad) .bad)
 (callQ (.call 144 [a0, (.int .u8 65), (.int .u8 70)] false none H nx) (fun x4 H nx =>
  bvK x4 (fun b5 => bK b5
 (optK (rdConv P H 5 3 (some a0)) (fun x6 =>
  optK (rdBin P H .sub 3 true (some x6) (some (.int .i64 65))) (fun x7 =>
  optK (rdBin P H .add 3 true (some x7) (some (.int .i64 10))) (fun x8 =>
  .ret ⟨.ret x8, false, H, nx⟩) .bad) .bad) .bad)
 (.ret ⟨.ret (.int .i64 (-1)), false, H, nx⟩)) .bad) panK)) .bad) panK := by kernel_rfl
def l183_20 (t5 : Bool) (H : T OB) (nx : Nat) : Cfg := .at ⟨183, 13, false, [], none, false⟩ (tmOf [(5, .bool t5)]) (todoOf P 183 20) H nx
theorem q183 (a0 : Value) (H : T OB) (nx : Nat) : evT P pl (.call 183 [a0] false none H nx) =
 natF (Nat.succ nx) (fun nx =>
 optK (rdFieldAddr P 44 (some (eptrV a0)) 0) (fun x0 =>
 optK (rdLoad P H 3 (some x0)) (fun x1 =>
 optK (rdBin P H .eql 3 true (some x1) (some (.int .i64 1))) (fun x2 =>
 bvK x2 (fun b3 => bK b3
 (.jump (l183_20 b3 H nx))
 (optK (rdBin P H .eql 3 true (some x1) (some (.int .i64 2))) (fun x4 =>
  bvK x4 (fun b5 => bK b5
 (.jump (l183_20 b5 H nx))
 (optK (rdBin P H .eql 3 true (some x1) (some (.int .i64 3))) (fun x6 =>
  bvK x6 (fun b7 => bK b7
 (.jump (l183_20 b7 H nx))
 (optK (rdBin P H .eql 3 true (some x1) (some (.int .i64 4))) (fun x8 =>
  bvK x8 (fun b9 => bK b9
 (.jump (l183_20 b9 H nx))
 (optK (rdBin P H .eql 3 true (some x1) (some (.int .i64 5))) (fun x10 =>
  bvK x10 (fun b11 => bK b11
 (.jump (l183_20 b11 H nx))
 (optK (rdBin P H .eql 3 true (some x1) (some (.int .i64 13))) (fun x12 =>
  bvK x12 (fun b13 => bK b13
 (.jump (l183_20 b13 H nx))
 (optK (rdBin P H .eql 3 true (some x1) (some (.int .i64 10))) (fun x14 =>
  bvK x14 (fun b15 => .jump (l183_20 b15 H nx)) .bad) .bad)) .bad) .bad)) .bad) .bad)) .bad) .bad)) .bad) .bad)) .bad) .bad)) .bad) .bad) .bad) .bad) := by kernel_rfl
theorem q183_20 (t5 : Bool) (H : T OB) (nx : Nat) : evT P pl (l183_20 t5 H nx) =
 bK t5
 (.ret ⟨.ret (.bool true), false, H, nx⟩)
 (.ret ⟨.ret (.bool false), false, H, nx⟩) := by kernel_rfl
end
end Go.Proofs.YthjhonhhbddhkaaGreatDoor
/- What functions of the program say, as trees. -/
namespace Go.Proofs.YthjhonhhbddhkaaGreatDoor
open Go.Ev Go.RowKit
noncomputable section
set_option linter.unusedVariables false
set_option maxHeartbeats 8000000
def l184_4 (t0 t1 t2 : Value) (H : T OB) (nx : Nat) : Cfg := .at ⟨184, 53, false, [], none, false⟩ (tmOf [(0, t0), (1, t1), (2, t2)]) (todoOf P 184 4) H nx
def l184_7 (t0 t1 t2 t6 : Value) (H : T OB) (nx : Nat) : Cfg := .at ⟨184, 53, false, [], none, false⟩ (tmOf [(0, t0), (1, t1), (2, t2), (6, t6)]) (todoOf P 184 7) H nx
def l184_14 (t0 t1 t2 t6 : Value) (H : T OB) (nx : Nat) : Cfg := .at ⟨184, 53, false, [], none, false⟩ (tmOf [(0, t0), (1, t1), (2, t2), (6, t6)]) (todoOf P 184 14) H nx
theorem q184 (a0 a1 a2 : Value) (H : T OB) (nx : Nat) : evT P pl (.call 184 [a0, a1, a2] false none H nx) =
 optK (rdLen P #[42] 3 (some [a1])) (fun x0 =>
 optK (rdLen P #[41] 3 (some [a2])) (fun x1 =>
 optK (rdBin P H .eql 3 false (some x0) (some x1)) (fun x2 =>
 bvK x2 (fun b3 => bK b3 (optK (rdLen P #[41] 3 (some [a2])) (fun x4 =>
 optK (rdBin P H .gtr 3 true (some x4) (some (.int .i64 0))) (fun x5 =>
 bvK x5 (fun b6 => callQ (.call 127 [a0, (.bool b6)] false none H nx) (fun x7 H nx =>
 .jump (l184_4 a0 a1 a2 H nx)) panK) .bad) .bad) .bad) (callQ (.call 127 [a0, (.bool false)] false none H nx) (fun x8 H nx =>
 .jump (l184_4 a0 a1 a2 H nx)) panK)) .bad) .bad) .bad) .bad := by kernel_rfl
theorem q184_4 (t0 t1 t2 : Value) (H : T OB) (nx : Nat) : evT P pl (l184_4 t0 t1 t2 H nx) =
 .jump (l184_7 t0 t1 t2 (.int .i64 0) H nx) := by kernel_rfl
theorem q184_7 (t0 t1 t2 t6 : Value) (H : T OB) (nx : Nat) : evT P pl (l184_7 t0 t1 t2 t6 H nx) =
 optK (rdLen P #[41] 3 (some [t2])) (fun x0 =>
 optK (rdBin P H .lss 3 false (some t6) (some x0)) (fun x1 =>
 bvK x1 (fun b2 => bK b2 (optK (rdLen P #[42] 3 (some [t1])) (fun x3 =>
 optK (rdBin P H .lss 3 false (some t6) (some x3)) (fun x4 =>
 bvK x4 (fun b5 => bK b5
 (optK (rdBin P H .gtr 3 true (some t6) (some (.int .i64 0))) (fun x6 =>
  bvK x6 (fun b7 => bK b7
 (callQ (.call 77 [(.string ⟨⟨[124]⟩⟩)] false none H nx) (fun x8 H nx =>
  effQ (efBuildSlice P H nx 29 1 (some [(0, x8)])) (fun x9 H nx =>
  callQ (.call 76 [t0, x9] false none H nx) (fun x10 H nx =>
  .jump (l184_14 t0 t1 t2 t6 H nx)) panK)) panK)
 (.jump (l184_14 t0 t1 t2 t6 H nx))) .bad) .bad)
 (.ret ⟨.ret (.tuple ⟨[]⟩), false, H, nx⟩)) .bad) .bad) .bad) (.ret ⟨.ret (.tuple ⟨[]⟩), false, H, nx⟩)) .bad) .bad) .bad := by kernel_rfl
theorem q184_14 (t0 t1 t2 t6 : Value) (H : T OB) (nx : Nat) : evT P pl (l184_14 t0 t1 t2 t6 H nx) =
 optK (rdIndexAddr P 42 (some t1) (some t6)) (fun x0 =>
 optK (rdLoad P H 47 (some x0)) (fun x1 =>
 callQ (.call 133 [t0, x1] false none H nx) (fun x2 H nx =>
 callQ (.call 77 [(.string ⟨⟨[61, 62]⟩⟩)] false none H nx) (fun x3 H nx =>
 effQ (efBuildSlice P H nx 29 1 (some [(0, x3)])) (fun x4 H nx =>
 callQ (.call 76 [t0, x4] false none H nx) (fun x5 H nx =>
 optK (rdIndexAddr P 41 (some t2) (some t6)) (fun x6 =>
 optK (rdLoad P H 44 (some x6)) (fun x7 =>
 callQ (.call 168 [t0, x7] false none H nx) (fun x8 H nx =>
 optK (rdBin P H .add 3 true (some t6) (some (.int .i64 1))) (fun x9 =>
 .jump (l184_7 t0 t1 t2 x9 H nx)) .bad) panK) .bad) .bad) panK)) panK) panK) .bad) .bad := by kernel_rfl
def l185_6 (t0 t3 : Value) (t17 : Bool) (H : T OB) (nx : Nat) : Cfg := .at ⟨185, 32, false, [], none, false⟩ (tmOf [(0, t0), (3, t3), (17, .bool t17)]) (todoOf P 185 6) H nx
theorem q185 (a0 a1 : Value) (H : T OB) (nx : Nat) : evT P pl (.call 185 [a0, a1] false none H nx) =
 natF (Nat.succ nx) (fun nx =>
 optK (rdFieldAddr P 138 (some (eptrV a1)) 0) (fun x0 =>
 optK (rdLoad P H 3 (some x0)) (fun x1 =>
 optK (rdBin P H .eql 3 true (some x1) (some (.int .i64 1))) (fun x2 =>
 bvK x2 (fun b3 => bK b3 (.jump (l185_6 a0 (eptrV a1) true H nx)) (optK (rdFieldAddr P 138 (some (eptrV a1)) 0) (fun x4 =>
 optK (rdLoad P H 3 (some x4)) (fun x5 =>
 optK (rdBin P H .eql 3 true (some x5) (some (.int .i64 2))) (fun x6 =>
 bvK x6 (fun b7 => bK b7 (optK (rdFieldAddr P 138 (some (eptrV a1)) 2) (fun x8 =>
 optK (rdLoad P H 53 (some x8)) (fun x9 =>
 optK (rdLen P #[53] 3 (some [x9])) (fun x10 =>
 optK (rdBin P H .eql 3 true (some x10) (some (.int .i64 0))) (fun x11 =>
 bvK x11 (fun b12 => .jump (l185_6 a0 (eptrV a1) b12 H nx)) .bad) .bad) .bad) .bad) .bad) (.jump (l185_6 a0 (eptrV a1) false H nx))) .bad) .bad) .bad) .bad)) .bad) .bad) .bad) .bad) := by kernel_rfl
theorem q185_6 (t0 t3 : Value) (t17 : Bool) (H : T OB) (nx : Nat) : evT P pl (l185_6 t0 t3 t17 H nx) =
 bK t17
 (optK (rdLoad P H 138 (some t3)) (fun x0 =>
  callQ (.call 171 [t0, x0] false none H nx) (fun x1 H nx =>
  .ret ⟨.ret (.tuple ⟨[]⟩), false, H, nx⟩) panK) .bad)
 (callQ (.call 77 [(.string ⟨⟨[40]⟩⟩)] false none H nx) (fun x2 H nx =>
  effQ (efBuildSlice P H nx 29 1 (some [(0, x2)])) (fun x3 H nx =>
  callQ (.call 76 [t0, x3] false none H nx) (fun x4 H nx =>
  optK (rdLoad P H 138 (some t3)) (fun x5 =>
  callQ (.call 171 [t0, x5] false none H nx) (fun x6 H nx =>
  callQ (.call 77 [(.string ⟨⟨[41]⟩⟩)] false none H nx) (fun x7 H nx =>
  effQ (efBuildSlice P H nx 29 1 (some [(0, x7)])) (fun x8 H nx =>
  callQ (.call 76 [t0, x8] false none H nx) (fun x9 H nx =>
  .ret ⟨.ret (.tuple ⟨[]⟩), false, H, nx⟩) panK)) panK) panK) .bad) panK)) panK) := by kernel_rfl
theorem q186 (a0 a1 : Value) (H : T OB) (nx : Nat) : evT P pl (.call 186 [a0, a1] false none H nx) =
 optK (rdBin P H .eql 9 true (some a1) (some (.string ⟨⟨[114, 101, 102]⟩⟩))) (fun x0 =>
 bvK x0 (fun b1 => bK b1
 (callQ (.call 129 [a1] false none H nx) (fun x2 H nx =>
  effQ (efBuildSlice P H nx 29 1 (some [(0, x2)])) (fun x3 H nx =>
  callQ (.call 76 [a0, x3] false none H nx) (fun x4 H nx =>
  .ret ⟨.ret (.tuple ⟨[]⟩), false, H, nx⟩) panK)) panK)
 (optK (rdBuild P 31 (some [(0, (.int .i64 3)), (1, a1)])) (fun x5 =>
  callQ (.call 132 [a0, x5] false none H nx) (fun x6 H nx =>
  .ret ⟨.ret (.tuple ⟨[]⟩), false, H, nx⟩) panK) .bad)) .bad) .bad := by kernel_rfl
end
end Go.Proofs.YthjhonhhbddhkaaGreatDoor
