/- What functions of the program say, as trees. -/
import Derived.Test.YtcfpakjillacgaaGreatDoorRa0
import Derived.KernelRfl
namespace Go.Proofs.YtcfpakjillacgaaGreatDoor
open Go.Ev Go.RowKit
noncomputable section
set_option linter.unusedVariables false
set_option maxHeartbeats 8000000
/-! kindling/kindlinglaw09.TypesTexts -/
noncomputable def l3_6 (t1 : Value) (t11 : Bool) (H : T OB) (nx : Nat) : Cfg := .at ⟨3, 21, false, [], none, false⟩ (tmOf [(1, t1), (11, .bool t11)]) (todoOf P 3 6) H nx
theorem q3 (a0 : Value) (H : T OB) (nx : Nat) : evT P pl (.call 3 [a0] false none H nx) =
  natF (Nat.succ nx) (fun nx =>
  optK (rdLoad P H 24 (some (eptrV a0))) (fun x0 =>
  callQ (.call 4 [x0, (.int .i64 500)] false none H nx) (fun x1 H nx =>
  optK (rdBin P H .gtr 3 true (some x1) (some (.int .i64 500))) (fun x2 =>
  bvK x2 (fun b3 => bK b3 (.jump (l3_6 (eptrV a0) true H nx)) (optK (rdFieldAddr P 24 (some (eptrV a0)) 2) (fun x4 =>
  optK (rdLoad P H 9 (some x4)) (fun x5 =>
  optK (rdLen P #[9] 3 (some [x5])) (fun x6 =>
  optK (rdBin P H .gtr 3 true (some x6) (some (.int .i64 100))) (fun x7 =>
  bvK x7 (fun b8 => .jump (l3_6 (eptrV a0) b8 H nx)) .bad) .bad) .bad) .bad) .bad)) .bad) .bad) panK) .bad) := by kernel_rfl
theorem q3_6 (t1 : Value) (t11 : Bool) (H : T OB) (nx : Nat) : evT P pl (l3_6 t1 t11 H nx) =
  bK t11
 (callQ (.call 5 [] false none H nx) (fun x0 H nx =>
  bvK x0 (fun b1 => .ret ⟨.ret (.bool b1), false, H, nx⟩) .bad) panK)
 (optK (rdLoad P H 24 (some t1)) (fun x2 =>
  optK (rdLoad P H 24 (some t1)) (fun x3 =>
  callQ (.call 6 [x2] false none H nx) (fun x4 H nx =>
  bK (optK (rdLoad P H 24 (some t1)) (fun u => vEq u x3) false && true) (callQ (.call 7 [x3] false none H nx) (fun x5 H nx =>
  optK (rdBin P H .eql 9 false (some x4) (some x5)) (fun x6 =>
  bvK x6 (fun b7 => bK b7 (callQ (.call 5 [] false none H nx) (fun x8 H nx =>
  bvK x8 (fun b9 => .ret ⟨.ret (.bool b9), false, H, nx⟩) .bad) panK) (.ret ⟨.ret (.bool false), false, H, nx⟩)) .bad) .bad) panK) .bad) panK) .bad) .bad) := by kernel_rfl
/-! kindling/kindlinglaw09.light -/
noncomputable def l4_9 (t1 : Value) (t2 : Value) (t5 : Value) (t6 : Value) (H : T OB) (nx : Nat) : Cfg := .at ⟨4, 40, false, [], none, false⟩ (tmOf [(1, t1), (2, t2), (5, t5), (6, t6)]) (todoOf P 4 9) H nx
theorem q4 (a0 : Value) (a1 : Value) (H : T OB) (nx : Nat) : evT P pl (.call 4 [a0, a1] false none H nx) =
  natF (Nat.succ nx) (fun nx =>
  .jump (l4_9 a1 (eptrV a0) (.int .i64 1) (.int .i64 0) H nx)) := by kernel_rfl
theorem q4_9 (t1 : Value) (t2 : Value) (t5 : Value) (t6 : Value) (H : T OB) (nx : Nat) : evT P pl (l4_9 t1 t2 t5 t6 H nx) =
  optK (rdFieldAddr P 24 (some t2) 3) (fun x0 =>
  optK (rdLoad P H 22 (some x0)) (fun x1 =>
  optK (rdLen P #[22] 3 (some [x1])) (fun x2 =>
  optK (rdBin P H .lss 3 false (some t6) (some x2)) (fun x3 =>
  bvK x3 (fun b4 => bK b4 (optK (rdBin P H .leq 3 false (some t5) (some t1)) (fun x5 =>
  bvK x5 (fun b6 => bK b6
 (optK (rdFieldAddr P 24 (some t2) 3) (fun x7 =>
  optK (rdLoad P H 22 (some x7)) (fun x8 =>
  optK (rdIndexAddr P 22 (some x8) (some t6)) (fun x9 =>
  optK (rdFieldAddr P 24 (some x9) 2) (fun x10 =>
  optK (rdLoad P H 9 (some x10)) (fun x11 =>
  optK (rdLen P #[9] 3 (some [x11])) (fun x12 =>
  optK (rdBin P H .quo 3 true (some x12) (some (.int .i64 8))) (fun x13 =>
  optK (rdBin P H .add 3 false (some t5) (some x13)) (fun x14 =>
  optK (rdFieldAddr P 24 (some t2) 3) (fun x15 =>
  optK (rdLoad P H 22 (some x15)) (fun x16 =>
  optK (rdIndexAddr P 22 (some x16) (some t6)) (fun x17 =>
  optK (rdLoad P H 24 (some x17)) (fun x18 =>
  optK (rdBin P H .sub 3 false (some t1) (some t5)) (fun x19 =>
  callQ (.call 4 [x18, x19] false none H nx) (fun x20 H nx =>
  bK (optK (rdBin P H .add 3 false (some t5) (some x13)) (fun u => vEq u x14) false && (optK (rdBin P H .quo 3 true (some x12) (some (.int .i64 8))) (fun u => vEq u x13) false && (optK (rdLoad P H 9 (some x10)) (fun u => vEq u x11) false && (optK (rdLoad P H 22 (some x7)) (fun u => vEq u x8) false && true)))) (optK (rdBin P H .add 3 false (some x14) (some x20)) (fun x21 =>
  optK (rdBin P H .add 3 true (some t6) (some (.int .i64 1))) (fun x22 =>
  .jump (l4_9 t1 t2 x21 x22 H nx)) .bad) .bad) .bad) panK) .bad) .bad) .bad) .bad) .bad) .bad) .bad) .bad) .bad) .bad) .bad) .bad) .bad)
 (.ret ⟨.ret t5, false, H, nx⟩)) .bad) .bad) (.ret ⟨.ret t5, false, H, nx⟩)) .bad) .bad) .bad) .bad) .bad := by kernel_rfl
/-! kindling/types.Text -/
theorem q6 (a0 : Value) (H : T OB) (nx : Nat) : evT P pl (.call 6 [a0] false none H nx) =
  natF (Nat.succ nx) (fun nx =>
  optK (rdLoad P H 24 (some (eptrV a0))) (fun x0 =>
  callQ (.call 15 [x0, (.int .i64 0)] false none H nx) (fun x1 H nx =>
  .ret ⟨.ret x1, false, H, nx⟩) panK) .bad) := by kernel_rfl
/-! kindling/kindlingref09.Text -/
noncomputable def l7_12 (t3 : Value) (H : T OB) (nx : Nat) : Cfg := .at ⟨7, 131, false, [], none, false⟩ (tmOf [(3, t3)]) (todoOf P 7 12) H nx
noncomputable def l7_20 (t1 : Value) (t40 : Bool) (H : T OB) (nx : Nat) : Cfg := .at ⟨7, 131, false, [], none, false⟩ (tmOf [(1, t1), (40, .bool t40)]) (todoOf P 7 20) H nx
noncomputable def l7_26 (t1 : Value) (t4 : Value) (t5 : Bool) (H : T OB) (nx : Nat) : Cfg := .at ⟨7, 131, false, [], none, false⟩ (tmOf [(1, t1), (4, t4), (5, .bool t5)]) (todoOf P 7 26) H nx
noncomputable def l7_29 (t1 : Value) (t4 : Value) (t5 : Bool) (t6 : Value) (H : T OB) (nx : Nat) : Cfg := .at ⟨7, 131, false, [], none, false⟩ (tmOf [(1, t1), (4, t4), (5, .bool t5), (6, t6)]) (todoOf P 7 29) H nx
noncomputable def l7_34 (t1 : Value) (t4 : Value) (t5 : Bool) (t6 : Value) (t69 : Bool) (H : T OB) (nx : Nat) : Cfg := .at ⟨7, 131, false, [], none, false⟩ (tmOf [(1, t1), (4, t4), (5, .bool t5), (6, t6), (69, .bool t69)]) (todoOf P 7 34) H nx
noncomputable def l7_42 (t1 : Value) (t4 : Value) (t5 : Bool) (t6 : Value) (t88 : Bool) (H : T OB) (nx : Nat) : Cfg := .at ⟨7, 131, false, [], none, false⟩ (tmOf [(1, t1), (4, t4), (5, .bool t5), (6, t6), (88, .bool t88)]) (todoOf P 7 42) H nx
theorem q7 (a0 : Value) (H : T OB) (nx : Nat) : evT P pl (.call 7 [a0] false none H nx) =
  natF (Nat.succ nx) (fun nx =>
  optK (rdFieldAddr P 24 (some (eptrV a0)) 0) (fun x0 =>
  optK (rdLoad P H 3 (some x0)) (fun x1 =>
  optK (rdBin P H .eql 3 true (some x1) (some (.int .i64 1))) (fun x2 =>
  bvK x2 (fun b3 => bK b3
 (optK (rdFieldAddr P 24 (some (eptrV a0)) 1) (fun x4 =>
  optK (rdLoad P H 3 (some x4)) (fun x5 =>
  optK (rdFieldAddr P 24 (some (eptrV a0)) 1) (fun x6 =>
  optK (rdLoad P H 3 (some x6)) (fun x7 =>
  callQ (.call 16 [x5, (.int .i64 26)] false none H nx) (fun x8 H nx =>
  bK (optK (rdLoad P H 3 (some x6)) (fun u => vEq u x7) false && true) (callQ (.call 16 [x7, (.int .i64 26)] false none H nx) (fun x9 H nx =>
  optK (rdBin P H .add 3 true (some x9) (some (.int .i64 1))) (fun x10 =>
  optK (rdSlice P H 9 (some (.string ⟨⟨[97, 98, 99, 100, 101, 102, 103, 104, 105, 106, 107, 108, 109, 110, 111, 112, 113, 114, 115, 116, 117, 118, 119, 120, 121, 122]⟩⟩)) (some (some x8)) (some (some x10)) (some none)) (fun x11 =>
  optK (rdBin P H .add 9 true (some (.string ⟨⟨[39]⟩⟩)) (some x11)) (fun x12 =>
  optK (rdFieldAddr P 24 (some (eptrV a0)) 1) (fun x13 =>
  optK (rdLoad P H 3 (some x13)) (fun x14 =>
  optK (rdBin P H .geq 3 true (some x14) (some (.int .i64 26))) (fun x15 =>
  bvK x15 (fun b16 => bK b16
 (optK (rdFieldAddr P 24 (some (eptrV a0)) 1) (fun x17 =>
  optK (rdLoad P H 3 (some x17)) (fun x18 =>
  optK (rdBin P H .quo 3 true (some x18) (some (.int .i64 26))) (fun x19 =>
  callQ (.call 17 [x19] false none H nx) (fun x20 H nx =>
  optK (rdBin P H .add 9 false (some x12) (some x20)) (fun x21 =>
  .jump (l7_12 x21 H nx)) .bad) panK) .bad) .bad) .bad)
 (.jump (l7_12 x12 H nx))) .bad) .bad) .bad) .bad) .bad) .bad) .bad) panK) .bad) panK) .bad) .bad) .bad) .bad)
 (optK (rdFieldAddr P 24 (some (eptrV a0)) 0) (fun x22 =>
  optK (rdLoad P H 3 (some x22)) (fun x23 =>
  optK (rdBin P H .neq 3 true (some x23) (some (.int .i64 2))) (fun x24 =>
  bvK x24 (fun b25 => bK b25
 (.ret ⟨.ret (.string ⟨⟨[63]⟩⟩), false, H, nx⟩)
 (optK (rdFieldAddr P 24 (some (eptrV a0)) 1) (fun x26 =>
  optK (rdLoad P H 3 (some x26)) (fun x27 =>
  optK (rdBin P H .eql 3 true (some x27) (some (.int .i64 5))) (fun x28 =>
  bvK x28 (fun b29 => bK b29 (optK (rdFieldAddr P 24 (some (eptrV a0)) 3) (fun x30 =>
  optK (rdLoad P H 22 (some x30)) (fun x31 =>
  optK (rdLen P #[22] 3 (some [x31])) (fun x32 =>
  optK (rdBin P H .eql 3 true (some x32) (some (.int .i64 2))) (fun x33 =>
  bvK x33 (fun b34 => .jump (l7_20 (eptrV a0) b34 H nx)) .bad) .bad) .bad) .bad) .bad) (.jump (l7_20 (eptrV a0) false H nx))) .bad) .bad) .bad) .bad)) .bad) .bad) .bad) .bad)) .bad) .bad) .bad) .bad) := by kernel_rfl
theorem q7_12 (t3 : Value) (H : T OB) (nx : Nat) : evT P pl (l7_12 t3 H nx) =
  .ret ⟨.ret t3, false, H, nx⟩ := by kernel_rfl
theorem q7_20 (t1 : Value) (t40 : Bool) (H : T OB) (nx : Nat) : evT P pl (l7_20 t1 t40 H nx) =
  bK t40
 (optK (rdFieldAddr P 24 (some t1) 3) (fun x0 =>
  optK (rdLoad P H 22 (some x0)) (fun x1 =>
  optK (rdIndexAddr P 22 (some x1) (some (.int .i64 0))) (fun x2 =>
  optK (rdLoad P H 24 (some x2)) (fun x3 =>
  optK (rdFieldAddr P 24 (some t1) 3) (fun x4 =>
  optK (rdLoad P H 22 (some x4)) (fun x5 =>
  optK (rdIndexAddr P 22 (some x5) (some (.int .i64 1))) (fun x6 =>
  optK (rdLoad P H 24 (some x6)) (fun x7 =>
  callQ (.call 18 [x3, (.bool false)] false none H nx) (fun x8 H nx =>
  bK (optK (rdLoad P H 24 (some x6)) (fun u => vEq u x7) false && (optK (rdLoad P H 22 (some x4)) (fun u => vEq u x5) false && true)) (optK (rdBin P H .add 9 true (some x8) (some (.string ⟨⟨[32, 45, 62, 32]⟩⟩))) (fun x9 =>
  callQ (.call 7 [x7] false none H nx) (fun x10 H nx =>
  bK (optK (rdBin P H .add 9 true (some x8) (some (.string ⟨⟨[32, 45, 62, 32]⟩⟩))) (fun u => vEq u x9) false && true) (optK (rdBin P H .add 9 false (some x9) (some x10)) (fun x11 =>
  .ret ⟨.ret x11, false, H, nx⟩) .bad) .bad) panK) .bad) .bad) panK) .bad) .bad) .bad) .bad) .bad) .bad) .bad) .bad)
 (optK (rdFieldAddr P 24 (some t1) 1) (fun x12 =>
  optK (rdLoad P H 3 (some x12)) (fun x13 =>
  optK (rdBin P H .eql 3 true (some x13) (some (.int .i64 6))) (fun x14 =>
  bvK x14 (fun b15 => bK b15 (optK (rdFieldAddr P 24 (some t1) 3) (fun x16 =>
  optK (rdLoad P H 22 (some x16)) (fun x17 =>
  optK (rdLen P #[22] 3 (some [x17])) (fun x18 =>
  optK (rdBin P H .geq 3 true (some x18) (some (.int .i64 2))) (fun x19 =>
  bvK x19 (fun b20 => .jump (l7_26 t1 (.string ⟨⟨[]⟩⟩) b20 H nx)) .bad) .bad) .bad) .bad) .bad) (.jump (l7_26 t1 (.string ⟨⟨[]⟩⟩) false H nx))) .bad) .bad) .bad) .bad) := by kernel_rfl
theorem q7_26 (t1 : Value) (t4 : Value) (t5 : Bool) (H : T OB) (nx : Nat) : evT P pl (l7_26 t1 t4 t5 H nx) =
  .jump (l7_29 t1 t4 t5 (.int .i64 0) H nx) := by kernel_rfl
theorem q7_29 (t1 : Value) (t4 : Value) (t5 : Bool) (t6 : Value) (H : T OB) (nx : Nat) : evT P pl (l7_29 t1 t4 t5 t6 H nx) =
  optK (rdFieldAddr P 24 (some t1) 3) (fun x0 =>
  optK (rdLoad P H 22 (some x0)) (fun x1 =>
  optK (rdLen P #[22] 3 (some [x1])) (fun x2 =>
  optK (rdBin P H .lss 3 false (some t6) (some x2)) (fun x3 =>
  bvK x3 (fun b4 => bK b4
 (optK (rdBin P H .gtr 3 true (some t6) (some (.int .i64 0))) (fun x5 =>
  bvK x5 (fun b6 => bK b6 (.jump (l7_34 t1 t4 t5 t6 t5 H nx)) (.jump (l7_34 t1 t4 t5 t6 false H nx))) .bad) .bad)
 (bK t5
 (.ret ⟨.ret t4, false, H, nx⟩)
 (optK (rdFieldAddr P 24 (some t1) 3) (fun x7 =>
  optK (rdLoad P H 22 (some x7)) (fun x8 =>
  optK (rdLen P #[22] 3 (some [x8])) (fun x9 =>
  optK (rdBin P H .eql 3 true (some x9) (some (.int .i64 0))) (fun x10 =>
  bvK x10 (fun b11 => bK b11
 (optK (rdFieldAddr P 24 (some t1) 2) (fun x12 =>
  optK (rdLoad P H 9 (some x12)) (fun x13 =>
  .ret ⟨.ret x13, false, H, nx⟩) .bad) .bad)
 (optK (rdFieldAddr P 24 (some t1) 3) (fun x14 =>
  optK (rdLoad P H 22 (some x14)) (fun x15 =>
  optK (rdLen P #[22] 3 (some [x15])) (fun x16 =>
  optK (rdBin P H .eql 3 true (some x16) (some (.int .i64 1))) (fun x17 =>
  bvK x17 (fun b18 => bK b18
 (optK (rdBin P H .add 9 true (some t4) (some (.string ⟨⟨[32]⟩⟩))) (fun x19 =>
  optK (rdFieldAddr P 24 (some t1) 2) (fun x20 =>
  optK (rdLoad P H 9 (some x20)) (fun x21 =>
  optK (rdBin P H .add 9 false (some x19) (some x21)) (fun x22 =>
  .ret ⟨.ret x22, false, H, nx⟩) .bad) .bad) .bad) .bad)
 (optK (rdBin P H .add 9 true (some (.string ⟨⟨[40]⟩⟩)) (some t4)) (fun x23 =>
  optK (rdBin P H .add 9 true (some x23) (some (.string ⟨⟨[41, 32]⟩⟩))) (fun x24 =>
  optK (rdFieldAddr P 24 (some t1) 2) (fun x25 =>
  optK (rdLoad P H 9 (some x25)) (fun x26 =>
  optK (rdBin P H .add 9 false (some x24) (some x26)) (fun x27 =>
  .ret ⟨.ret x27, false, H, nx⟩) .bad) .bad) .bad) .bad) .bad)) .bad) .bad) .bad) .bad) .bad)) .bad) .bad) .bad) .bad) .bad))) .bad) .bad) .bad) .bad) .bad := by kernel_rfl
theorem q7_34 (t1 : Value) (t4 : Value) (t5 : Bool) (t6 : Value) (t69 : Bool) (H : T OB) (nx : Nat) : evT P pl (l7_34 t1 t4 t5 t6 t69 H nx) =
  bK t69
 (optK (rdBin P H .add 9 true (some t4) (some (.string ⟨⟨[32, 42, 32]⟩⟩))) (fun x0 =>
  bK t5 (.jump (l7_42 t1 x0 t5 t6 true H nx)) (optK (rdFieldAddr P 24 (some t1) 3) (fun x1 =>
  optK (rdLoad P H 22 (some x1)) (fun x2 =>
  optK (rdLen P #[22] 3 (some [x2])) (fun x3 =>
  optK (rdBin P H .eql 3 true (some x3) (some (.int .i64 1))) (fun x4 =>
  bvK x4 (fun b5 => .jump (l7_42 t1 x0 t5 t6 b5 H nx)) .bad) .bad) .bad) .bad) .bad)) .bad)
 (optK (rdBin P H .gtr 3 true (some t6) (some (.int .i64 0))) (fun x6 =>
  bvK x6 (fun b7 => bK b7
 (optK (rdBin P H .add 9 true (some t4) (some (.string ⟨⟨[44, 32]⟩⟩))) (fun x8 =>
  bK t5 (.jump (l7_42 t1 x8 t5 t6 true H nx)) (optK (rdFieldAddr P 24 (some t1) 3) (fun x9 =>
  optK (rdLoad P H 22 (some x9)) (fun x10 =>
  optK (rdLen P #[22] 3 (some [x10])) (fun x11 =>
  optK (rdBin P H .eql 3 true (some x11) (some (.int .i64 1))) (fun x12 =>
  bvK x12 (fun b13 => .jump (l7_42 t1 x8 t5 t6 b13 H nx)) .bad) .bad) .bad) .bad) .bad)) .bad)
 (bK t5 (.jump (l7_42 t1 t4 t5 t6 true H nx)) (optK (rdFieldAddr P 24 (some t1) 3) (fun x14 =>
  optK (rdLoad P H 22 (some x14)) (fun x15 =>
  optK (rdLen P #[22] 3 (some [x15])) (fun x16 =>
  optK (rdBin P H .eql 3 true (some x16) (some (.int .i64 1))) (fun x17 =>
  bvK x17 (fun b18 => .jump (l7_42 t1 t4 t5 t6 b18 H nx)) .bad) .bad) .bad) .bad) .bad))) .bad) .bad) := by kernel_rfl
theorem q7_42 (t1 : Value) (t4 : Value) (t5 : Bool) (t6 : Value) (t88 : Bool) (H : T OB) (nx : Nat) : evT P pl (l7_42 t1 t4 t5 t6 t88 H nx) =
  bK t88
 (optK (rdFieldAddr P 24 (some t1) 3) (fun x0 =>
  optK (rdLoad P H 22 (some x0)) (fun x1 =>
  optK (rdIndexAddr P 22 (some x1) (some t6)) (fun x2 =>
  optK (rdLoad P H 24 (some x2)) (fun x3 =>
  callQ (.call 18 [x3, (.bool true)] false none H nx) (fun x4 H nx =>
  optK (rdBin P H .add 9 false (some t4) (some x4)) (fun x5 =>
  optK (rdBin P H .add 3 true (some t6) (some (.int .i64 1))) (fun x6 =>
  .jump (l7_29 t1 x5 t5 x6 H nx)) .bad) .bad) panK) .bad) .bad) .bad) .bad)
 (optK (rdFieldAddr P 24 (some t1) 3) (fun x7 =>
  optK (rdLoad P H 22 (some x7)) (fun x8 =>
  optK (rdIndexAddr P 22 (some x8) (some t6)) (fun x9 =>
  optK (rdLoad P H 24 (some x9)) (fun x10 =>
  callQ (.call 7 [x10] false none H nx) (fun x11 H nx =>
  optK (rdBin P H .add 9 false (some t4) (some x11)) (fun x12 =>
  optK (rdBin P H .add 3 true (some t6) (some (.int .i64 1))) (fun x13 =>
  .jump (l7_29 t1 x12 t5 x13 H nx)) .bad) .bad) panK) .bad) .bad) .bad) .bad) := by kernel_rfl
/-! kindling/types.text -/
noncomputable def l15_30 (t1 : Value) (t2 : Value) (t48 : Bool) (H : T OB) (nx : Nat) : Cfg := .at ⟨15, 127, false, [], none, false⟩ (tmOf [(1, t1), (2, t2), (48, .bool t48)]) (todoOf P 15 30) H nx
noncomputable def l15_34 (t1 : Value) (t2 : Value) (t70 : Bool) (H : T OB) (nx : Nat) : Cfg := .at ⟨15, 127, false, [], none, false⟩ (tmOf [(1, t1), (2, t2), (70, .bool t70)]) (todoOf P 15 34) H nx
noncomputable def l15_39 (t1 : Value) (t5 : Value) (t6 : Value) (t87 : Value) (t88 : Value) (t89 : Value) (H : T OB) (nx : Nat) : Cfg := .at ⟨15, 127, false, [], none, false⟩ (tmOf [(1, t1), (5, t5), (6, t6), (87, t87), (88, t88), (89, t89)]) (todoOf P 15 39) H nx
noncomputable def l15_11 (t2 : Value) (t5 : Value) (t19 : Value) (t20 : Value) (t21 : Value) (H : T OB) (nx : Nat) : Cfg := .at ⟨15, 127, false, [], none, false⟩ (tmOf [(2, t2), (5, t5), (19, t19), (20, t20), (21, t21)]) (todoOf P 15 11) H nx
theorem q15 (a0 : Value) (a1 : Value) (H : T OB) (nx : Nat) : evT P pl (.call 15 [a0, a1] false none H nx) =
  natF (Nat.succ nx) (fun nx =>
  optK (rdFieldAddr P 24 (some (eptrV a0)) 0) (fun x0 =>
  optK (rdLoad P H 3 (some x0)) (fun x1 =>
  optK (rdBin P H .eql 3 true (some x1) (some (.int .i64 1))) (fun x2 =>
  bvK x2 (fun b3 => bK b3
 (optK (rdFieldAddr P 24 (some (eptrV a0)) 1) (fun x4 =>
  optK (rdLoad P H 3 (some x4)) (fun x5 =>
  callQ (.call 24 [x5] false none H nx) (fun x6 H nx =>
  .ret ⟨.ret x6, false, H, nx⟩) panK) .bad) .bad)
 (optK (rdFieldAddr P 24 (some (eptrV a0)) 0) (fun x7 =>
  optK (rdLoad P H 3 (some x7)) (fun x8 =>
  optK (rdBin P H .neq 3 true (some x8) (some (.int .i64 2))) (fun x9 =>
  bvK x9 (fun b10 => bK b10
 (.ret ⟨.ret (.string ⟨⟨[63]⟩⟩), false, H, nx⟩)
 (optK (rdFieldAddr P 24 (some (eptrV a0)) 1) (fun x11 =>
  optK (rdLoad P H 3 (some x11)) (fun x12 =>
  optK (rdBin P H .eql 3 true (some x12) (some (.int .i64 5))) (fun x13 =>
  bvK x13 (fun b14 => bK b14 (optK (rdFieldAddr P 24 (some (eptrV a0)) 3) (fun x15 =>
  optK (rdLoad P H 22 (some x15)) (fun x16 =>
  optK (rdLen P #[22] 3 (some [x16])) (fun x17 =>
  optK (rdBin P H .eql 3 true (some x17) (some (.int .i64 2))) (fun x18 =>
  bvK x18 (fun b19 => .jump (l15_30 a1 (eptrV a0) b19 H nx)) .bad) .bad) .bad) .bad) .bad) (.jump (l15_30 a1 (eptrV a0) false H nx))) .bad) .bad) .bad) .bad)) .bad) .bad) .bad) .bad)) .bad) .bad) .bad) .bad) := by kernel_rfl
theorem q15_30 (t1 : Value) (t2 : Value) (t48 : Bool) (H : T OB) (nx : Nat) : evT P pl (l15_30 t1 t2 t48 H nx) =
  bK t48
 (optK (rdFieldAddr P 24 (some t2) 3) (fun x0 =>
  optK (rdLoad P H 22 (some x0)) (fun x1 =>
  optK (rdIndexAddr P 22 (some x1) (some (.int .i64 0))) (fun x2 =>
  optK (rdLoad P H 24 (some x2)) (fun x3 =>
  optK (rdFieldAddr P 24 (some t2) 3) (fun x4 =>
  optK (rdLoad P H 22 (some x4)) (fun x5 =>
  optK (rdIndexAddr P 22 (some x5) (some (.int .i64 1))) (fun x6 =>
  optK (rdLoad P H 24 (some x6)) (fun x7 =>
  callQ (.call 15 [x3, (.int .i64 1)] false none H nx) (fun x8 H nx =>
  bK (optK (rdLoad P H 24 (some x6)) (fun u => vEq u x7) false && (optK (rdLoad P H 22 (some x4)) (fun u => vEq u x5) false && true)) (optK (rdBin P H .add 9 true (some x8) (some (.string ⟨⟨[32, 45, 62, 32]⟩⟩))) (fun x9 =>
  callQ (.call 15 [x7, (.int .i64 0)] false none H nx) (fun x10 H nx =>
  bK (optK (rdBin P H .add 9 true (some x8) (some (.string ⟨⟨[32, 45, 62, 32]⟩⟩))) (fun u => vEq u x9) false && true) (optK (rdBin P H .add 9 false (some x9) (some x10)) (fun x11 =>
  optK (rdBin P H .geq 3 false (some t1) (some (.int .i64 1))) (fun x12 =>
  bvK x12 (fun b13 => bK b13
 (optK (rdBin P H .add 9 true (some (.string ⟨⟨[40]⟩⟩)) (some x11)) (fun x14 =>
  optK (rdBin P H .add 9 true (some x14) (some (.string ⟨⟨[41]⟩⟩))) (fun x15 =>
  .ret ⟨.ret x15, false, H, nx⟩) .bad) .bad)
 (.ret ⟨.ret x11, false, H, nx⟩)) .bad) .bad) .bad) .bad) panK) .bad) .bad) panK) .bad) .bad) .bad) .bad) .bad) .bad) .bad) .bad)
 (optK (rdFieldAddr P 24 (some t2) 1) (fun x16 =>
  optK (rdLoad P H 3 (some x16)) (fun x17 =>
  optK (rdBin P H .eql 3 true (some x17) (some (.int .i64 6))) (fun x18 =>
  bvK x18 (fun b19 => bK b19 (optK (rdFieldAddr P 24 (some t2) 3) (fun x20 =>
  optK (rdLoad P H 22 (some x20)) (fun x21 =>
  optK (rdLen P #[22] 3 (some [x21])) (fun x22 =>
  optK (rdBin P H .geq 3 true (some x22) (some (.int .i64 2))) (fun x23 =>
  bvK x23 (fun b24 => .jump (l15_34 t1 t2 b24 H nx)) .bad) .bad) .bad) .bad) .bad) (.jump (l15_34 t1 t2 false H nx))) .bad) .bad) .bad) .bad) := by kernel_rfl
theorem q15_34 (t1 : Value) (t2 : Value) (t70 : Bool) (H : T OB) (nx : Nat) : evT P pl (l15_34 t1 t2 t70 H nx) =
  bK t70
 (optK (rdFieldAddr P 24 (some t2) 3) (fun x0 =>
  optK (rdLoad P H 22 (some x0)) (fun x1 =>
  optK (rdIndexAddr P 22 (some x1) (some (.int .i64 0))) (fun x2 =>
  optK (rdLoad P H 24 (some x2)) (fun x3 =>
  callQ (.call 15 [x3, (.int .i64 2)] false none H nx) (fun x4 H nx =>
  optK (rdFieldAddr P 24 (some t2) 3) (fun x5 =>
  optK (rdLoad P H 22 (some x5)) (fun x6 =>
  optK (rdSlice P H 22 (some x6) (some (some (.int .i64 1))) (some none) (some none)) (fun x7 =>
  optK (rdLen P #[22] 3 (some [x7])) (fun x8 =>
  .jump (l15_39 t1 x4 (.int .i64 2) x7 x8 (.int .i64 0) H nx)) .bad) .bad) .bad) .bad) panK) .bad) .bad) .bad) .bad)
 (optK (rdFieldAddr P 24 (some t2) 3) (fun x9 =>
  optK (rdLoad P H 22 (some x9)) (fun x10 =>
  optK (rdLen P #[22] 3 (some [x10])) (fun x11 =>
  optK (rdBin P H .eql 3 true (some x11) (some (.int .i64 0))) (fun x12 =>
  bvK x12 (fun b13 => bK b13
 (optK (rdFieldAddr P 24 (some t2) 2) (fun x14 =>
  optK (rdLoad P H 9 (some x14)) (fun x15 =>
  .ret ⟨.ret x15, false, H, nx⟩) .bad) .bad)
 (optK (rdFieldAddr P 24 (some t2) 3) (fun x16 =>
  optK (rdLoad P H 22 (some x16)) (fun x17 =>
  optK (rdLen P #[22] 3 (some [x17])) (fun x18 =>
  optK (rdBin P H .eql 3 true (some x18) (some (.int .i64 1))) (fun x19 =>
  bvK x19 (fun b20 => bK b20
 (optK (rdFieldAddr P 24 (some t2) 3) (fun x21 =>
  optK (rdLoad P H 22 (some x21)) (fun x22 =>
  optK (rdIndexAddr P 22 (some x22) (some (.int .i64 0))) (fun x23 =>
  optK (rdLoad P H 24 (some x23)) (fun x24 =>
  optK (rdFieldAddr P 24 (some t2) 2) (fun x25 =>
  optK (rdLoad P H 9 (some x25)) (fun x26 =>
  callQ (.call 15 [x24, (.int .i64 2)] false none H nx) (fun x27 H nx =>
  bK (optK (rdLoad P H 9 (some x25)) (fun u => vEq u x26) false && true) (optK (rdBin P H .add 9 true (some x27) (some (.string ⟨⟨[32]⟩⟩))) (fun x28 =>
  optK (rdBin P H .add 9 false (some x28) (some x26)) (fun x29 =>
  .ret ⟨.ret x29, false, H, nx⟩) .bad) .bad) .bad) panK) .bad) .bad) .bad) .bad) .bad) .bad)
 (optK (rdFieldAddr P 24 (some t2) 3) (fun x30 =>
  optK (rdLoad P H 22 (some x30)) (fun x31 =>
  optK (rdIndexAddr P 22 (some x31) (some (.int .i64 0))) (fun x32 =>
  optK (rdLoad P H 24 (some x32)) (fun x33 =>
  callQ (.call 15 [x33, (.int .i64 0)] false none H nx) (fun x34 H nx =>
  optK (rdBin P H .add 9 true (some (.string ⟨⟨[40]⟩⟩)) (some x34)) (fun x35 =>
  optK (rdFieldAddr P 24 (some t2) 3) (fun x36 =>
  optK (rdLoad P H 22 (some x36)) (fun x37 =>
  optK (rdSlice P H 22 (some x37) (some (some (.int .i64 1))) (some none) (some none)) (fun x38 =>
  optK (rdLen P #[22] 3 (some [x38])) (fun x39 =>
  .jump (l15_11 t2 x35 x38 x39 (.int .i64 0) H nx)) .bad) .bad) .bad) .bad) .bad) panK) .bad) .bad) .bad) .bad)) .bad) .bad) .bad) .bad) .bad)) .bad) .bad) .bad) .bad) .bad) := by kernel_rfl
theorem q15_39 (t1 : Value) (t5 : Value) (t6 : Value) (t87 : Value) (t88 : Value) (t89 : Value) (H : T OB) (nx : Nat) : evT P pl (l15_39 t1 t5 t6 t87 t88 t89 H nx) =
  optK (rdBin P H .lss 3 false (some t89) (some t88)) (fun x0 =>
  bvK x0 (fun b1 => bK b1
 (optK (rdIndexAddr P 22 (some t87) (some t89)) (fun x2 =>
  optK (rdLoad P H 24 (some x2)) (fun x3 =>
  effQ (efAlloc P H nx 24) (fun x4 H nx =>
  frSt P H nx 24 (some x4) x3 (fun H nx =>
  optK (rdLoad P H 24 (some (eptrV x3))) (fun x5 =>
  callQ (.call 15 [x5, (.int .i64 2)] false none H nx) (fun x6 H nx =>
  optK (rdBin P H .add 9 true (some (.string ⟨⟨[32, 42, 32]⟩⟩)) (some x6)) (fun x7 =>
  optK (rdBin P H .add 9 false (some t5) (some x7)) (fun x8 =>
  optK (rdBin P H .add 3 true (some t89) (some (.int .i64 1))) (fun x9 =>
  .jump (l15_39 t1 x8 t6 t87 t88 x9 H nx)) .bad) .bad) .bad) panK) .bad))) .bad) .bad)
 (optK (rdBin P H .geq 3 false (some t1) (some t6)) (fun x10 =>
  bvK x10 (fun b11 => bK b11
 (optK (rdBin P H .add 9 true (some (.string ⟨⟨[40]⟩⟩)) (some t5)) (fun x12 =>
  optK (rdBin P H .add 9 true (some x12) (some (.string ⟨⟨[41]⟩⟩))) (fun x13 =>
  .ret ⟨.ret x13, false, H, nx⟩) .bad) .bad)
 (.ret ⟨.ret t5, false, H, nx⟩)) .bad) .bad)) .bad) .bad := by kernel_rfl
theorem q15_11 (t2 : Value) (t5 : Value) (t19 : Value) (t20 : Value) (t21 : Value) (H : T OB) (nx : Nat) : evT P pl (l15_11 t2 t5 t19 t20 t21 H nx) =
  optK (rdBin P H .lss 3 false (some t21) (some t20)) (fun x0 =>
  bvK x0 (fun b1 => bK b1
 (optK (rdIndexAddr P 22 (some t19) (some t21)) (fun x2 =>
  optK (rdLoad P H 24 (some x2)) (fun x3 =>
  effQ (efAlloc P H nx 24) (fun x4 H nx =>
  frSt P H nx 24 (some x4) x3 (fun H nx =>
  optK (rdLoad P H 24 (some (eptrV x3))) (fun x5 =>
  callQ (.call 15 [x5, (.int .i64 0)] false none H nx) (fun x6 H nx =>
  optK (rdBin P H .add 9 true (some (.string ⟨⟨[44, 32]⟩⟩)) (some x6)) (fun x7 =>
  optK (rdBin P H .add 9 false (some t5) (some x7)) (fun x8 =>
  optK (rdBin P H .add 3 true (some t21) (some (.int .i64 1))) (fun x9 =>
  .jump (l15_11 t2 x8 t19 t20 x9 H nx)) .bad) .bad) .bad) panK) .bad))) .bad) .bad)
 (optK (rdBin P H .add 9 true (some t5) (some (.string ⟨⟨[41, 32]⟩⟩))) (fun x10 =>
  optK (rdFieldAddr P 24 (some t2) 2) (fun x11 =>
  optK (rdLoad P H 9 (some x11)) (fun x12 =>
  optK (rdBin P H .add 9 false (some x10) (some x12)) (fun x13 =>
  .ret ⟨.ret x13, false, H, nx⟩) .bad) .bad) .bad) .bad)) .bad) .bad := by kernel_rfl
/-! kindling/kindlingref01.Among -/
noncomputable def l16_14 (t0 : Value) (H : T OB) (nx : Nat) : Cfg := .at ⟨16, 16, false, [], none, false⟩ (tmOf [(0, t0)]) (todoOf P 16 14) H nx
theorem q16 (a0 : Value) (a1 : Value) (H : T OB) (nx : Nat) : evT P pl (.call 16 [a0, a1] false none H nx) =
  optK (rdBin P H .lss 3 true (some a1) (some (.int .i64 1))) (fun x0 =>
  bvK x0 (fun b1 => bK b1
 (.ret ⟨.ret (.int .i64 0), false, H, nx⟩)
 (optK (rdBin P H .rem 3 false (some a0) (some a1)) (fun x2 =>
  optK (rdBin P H .lss 3 true (some x2) (some (.int .i64 0))) (fun x3 =>
  bvK x3 (fun b4 => bK b4
 (optK (rdBin P H .add 3 false (some x2) (some a1)) (fun x5 =>
  .jump (l16_14 x5 H nx)) .bad)
 (.jump (l16_14 x2 H nx))) .bad) .bad) .bad)) .bad) .bad := by kernel_rfl
theorem q16_14 (t0 : Value) (H : T OB) (nx : Nat) : evT P pl (l16_14 t0 H nx) =
  .ret ⟨.ret t0, false, H, nx⟩ := by kernel_rfl
/-! kindling/kindlingref01.Text -/
noncomputable def l17_9 (t0 : Value) (t3 : Value) (t4 : Value) (H : T OB) (nx : Nat) : Cfg := .at ⟨17, 33, false, [], none, false⟩ (tmOf [(0, t0), (3, t3), (4, t4)]) (todoOf P 17 9) H nx
noncomputable def l17_16 (t0 : Value) (t3 : Value) (t4 : Value) (t5 : Value) (H : T OB) (nx : Nat) : Cfg := .at ⟨17, 33, false, [], none, false⟩ (tmOf [(0, t0), (3, t3), (4, t4), (5, t5)]) (todoOf P 17 16) H nx
theorem q17 (a0 : Value) (H : T OB) (nx : Nat) : evT P pl (.call 17 [a0] false none H nx) =
  .jump (l17_9 a0 (.string ⟨⟨[]⟩⟩) a0 H nx) := by kernel_rfl
theorem q17_9 (t0 : Value) (t3 : Value) (t4 : Value) (H : T OB) (nx : Nat) : evT P pl (l17_9 t0 t3 t4 H nx) =
  optK (rdBin P H .neq 2 true (some t4) (some (.int .i64 0))) (fun x0 =>
  bvK x0 (fun b1 => bK b1 (optK (rdBin P H .rem 2 true (some t4) (some (.int .i64 10))) (fun x11 =>
  optK (rdBin P H .lss 2 true (some x11) (some (.int .i64 0))) (fun x12 =>
  bvK x12 (fun b13 => bK b13
 (optK (unV P .neg (some x11)) (fun x14 =>
  .jump (l17_16 t0 t3 t4 x14 H nx)) .bad)
 (.jump (l17_16 t0 t3 t4 x11 H nx))) .bad) .bad) .bad) (optK (rdBin P H .eql 9 true (some t3) (some (.string ⟨⟨[]⟩⟩))) (fun x2 =>
  bvK x2 (fun b3 => bK b3
 (optK (rdBin P H .rem 2 true (some t4) (some (.int .i64 10))) (fun x4 =>
  optK (rdBin P H .lss 2 true (some x4) (some (.int .i64 0))) (fun x5 =>
  bvK x5 (fun b6 => bK b6
 (optK (unV P .neg (some x4)) (fun x7 =>
  .jump (l17_16 t0 t3 t4 x7 H nx)) .bad)
 (.jump (l17_16 t0 t3 t4 x4 H nx))) .bad) .bad) .bad)
 (optK (rdBin P H .lss 2 true (some t0) (some (.int .i64 0))) (fun x8 =>
  bvK x8 (fun b9 => bK b9
 (optK (rdBin P H .add 9 true (some (.string ⟨⟨[45]⟩⟩)) (some t3)) (fun x10 =>
  .ret ⟨.ret x10, false, H, nx⟩) .bad)
 (.ret ⟨.ret t3, false, H, nx⟩)) .bad) .bad)) .bad) .bad)) .bad) .bad := by kernel_rfl
theorem q17_16 (t0 : Value) (t3 : Value) (t4 : Value) (t5 : Value) (H : T OB) (nx : Nat) : evT P pl (l17_16 t0 t3 t4 t5 H nx) =
  optK (rdBin P H .add 2 true (some (.int .i64 48)) (some t5)) (fun x0 =>
  optK (rdConv P H 2 5 (some x0)) (fun x1 =>
  effQ (efBuildSlice P H nx 82 1 (some [(0, x1)])) (fun x2 H nx =>
  optK (rdConv P H 82 9 (some x2)) (fun x3 =>
  optK (rdBin P H .add 9 false (some x3) (some t3)) (fun x4 =>
  optK (rdBin P H .quo 2 true (some t4) (some (.int .i64 10))) (fun x5 =>
  .jump (l17_9 t0 x4 x5 H nx)) .bad) .bad) .bad)) .bad) .bad := by kernel_rfl
end
end Go.Proofs.YtcfpakjillacgaaGreatDoor
