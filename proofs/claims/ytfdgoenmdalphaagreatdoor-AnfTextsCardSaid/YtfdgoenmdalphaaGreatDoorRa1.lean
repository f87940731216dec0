/- What functions of the program say, as trees. -/
import Derived.Test.YtfdgoenmdalphaaGreatDoorRa0
import Derived.KernelRfl
namespace Go.Proofs.YtfdgoenmdalphaaGreatDoor
open Go.Ev Go.RowKit
noncomputable section
set_option linter.unusedVariables false
set_option maxHeartbeats 8000000
/-! kindling/kindlinglaw11.AnfRights -/
theorem q5 (a0 : Value) (H : T OB) (nx : Nat) : evT P pl (.call 5 [a0] false none H nx) =
  callQ (.call 21 [a0, (.int .i64 500)] false none H nx) (fun x0 H nx =>
  optK (rdBin P H .gtr 3 true (some x0) (some (.int .i64 500))) (fun x1 =>
  bvK x1 (fun b2 => bK b2 (.ret ⟨.ret (.bool true), false, H, nx⟩) (callQ (.call 18 [a0] false none H nx) (fun x3 H nx =>
  bvK x3 (fun b4 => callQ (.call 12 [a0] false none H nx) (fun x5 H nx =>
  bvK x5 (fun b6 => optK (rdBin P H .eql 4 false (some (.bool b4)) (some (.bool b6))) (fun x7 =>
  bvK x7 (fun b8 => bK b8 (callQ (.call 10 [] false none H nx) (fun x9 H nx =>
  bvK x9 (fun b10 => .ret ⟨.ret (.bool b10), false, H, nx⟩) .bad) panK) (.ret ⟨.ret (.bool false), false, H, nx⟩)) .bad) .bad) .bad) panK) .bad) panK)) .bad) .bad) panK := by kernel_rfl
/-! kindling/kindlinglaw11.AnfTexts -/
theorem q6 (a0 : Value) (H : T OB) (nx : Nat) : evT P pl (.call 6 [a0] false none H nx) =
  callQ (.call 21 [a0, (.int .i64 500)] false none H nx) (fun x0 H nx =>
  optK (rdBin P H .gtr 3 true (some x0) (some (.int .i64 500))) (fun x1 =>
  bvK x1 (fun b2 => bK b2 (.ret ⟨.ret (.bool true), false, H, nx⟩) (callQ (.call 22 [a0] false none H nx) (fun x3 H nx =>
  callQ (.call 23 [a0] false none H nx) (fun x4 H nx =>
  optK (rdBin P H .eql 9 false (some x3) (some x4)) (fun x5 =>
  bvK x5 (fun b6 => bK b6 (callQ (.call 10 [] false none H nx) (fun x7 H nx =>
  bvK x7 (fun b8 => .ret ⟨.ret (.bool b8), false, H, nx⟩) .bad) panK) (.ret ⟨.ret (.bool false), false, H, nx⟩)) .bad) .bad) panK) panK)) .bad) .bad) panK := by kernel_rfl
/-! kindling/kindlingref11.Right -/
noncomputable def l12_7 (t0 : Value) (t3 : Value) (H : T OB) (nx : Nat) : Cfg := .at ⟨12, 50, false, [], none, false⟩ (tmOf [(0, t0), (3, t3)]) (todoOf P 12 7) H nx
noncomputable def l12_12 (t0 : Value) (t3 : Value) (t46 : Bool) (H : T OB) (nx : Nat) : Cfg := .at ⟨12, 50, false, [], none, false⟩ (tmOf [(0, t0), (3, t3), (46, .bool t46)]) (todoOf P 12 12) H nx
theorem q12 (a0 : Value) (H : T OB) (nx : Nat) : evT P pl (.call 12 [a0] false none H nx) =
  .jump (l12_7 a0 (.int .i64 0) H nx) := by kernel_rfl
theorem q12_7 (t0 : Value) (t3 : Value) (H : T OB) (nx : Nat) : evT P pl (l12_7 t0 t3 H nx) =
  optK (rdLen P #[30] 3 (some [t0])) (fun x0 =>
  optK (rdBin P H .lss 3 false (some t3) (some x0)) (fun x1 =>
  bvK x1 (fun b2 => bK b2
 (optK (rdIndexAddr P 30 (some t0) (some t3)) (fun x3 =>
  optK (rdFieldAddr P 69 (some x3) 0) (fun x4 =>
  optK (rdLoad P H 3 (some x4)) (fun x5 =>
  optK (rdBin P H .lss 3 true (some x5) (some (.int .i64 0))) (fun x6 =>
  bvK x6 (fun b7 => bK b7 (.jump (l12_12 t0 t3 true H nx)) (optK (rdIndexAddr P 30 (some t0) (some t3)) (fun x8 =>
  optK (rdFieldAddr P 69 (some x8) 1) (fun x9 =>
  optK (rdLoad P H 3 (some x9)) (fun x10 =>
  optK (rdBin P H .lss 3 true (some x10) (some (.int .i64 0))) (fun x11 =>
  bvK x11 (fun b12 => bK b12 (.jump (l12_12 t0 t3 true H nx)) (optK (rdBin P H .eql 3 true (some t3) (some (.int .i64 0))) (fun x13 =>
  bvK x13 (fun b14 => bK b14 (optK (rdIndexAddr P 30 (some t0) (some t3)) (fun x15 =>
  optK (rdFieldAddr P 69 (some x15) 0) (fun x16 =>
  optK (rdLoad P H 3 (some x16)) (fun x17 =>
  optK (rdBin P H .neq 3 true (some x17) (some (.int .i64 0))) (fun x18 =>
  bvK x18 (fun b19 => bK b19 (.jump (l12_12 t0 t3 true H nx)) (optK (rdIndexAddr P 30 (some t0) (some t3)) (fun x20 =>
  optK (rdFieldAddr P 69 (some x20) 2) (fun x21 =>
  optK (rdLoad P H 67 (some x21)) (fun x22 =>
  callQ (.call 38 [t0, t3, x22, (.slice none 0 0), (.bool false)] false none H nx) (fun x23 H nx =>
  bvK x23 (fun b24 => optK (unV P .not (some (.bool b24))) (fun x25 =>
  bvK x25 (fun b26 => .jump (l12_12 t0 t3 b26 H nx)) .bad) .bad) .bad) panK) .bad) .bad) .bad)) .bad) .bad) .bad) .bad) .bad) (optK (rdIndexAddr P 30 (some t0) (some t3)) (fun x27 =>
  optK (rdFieldAddr P 69 (some x27) 2) (fun x28 =>
  optK (rdLoad P H 67 (some x28)) (fun x29 =>
  callQ (.call 38 [t0, t3, x29, (.slice none 0 0), (.bool false)] false none H nx) (fun x30 H nx =>
  bvK x30 (fun b31 => optK (unV P .not (some (.bool b31))) (fun x32 =>
  bvK x32 (fun b33 => .jump (l12_12 t0 t3 b33 H nx)) .bad) .bad) .bad) panK) .bad) .bad) .bad)) .bad) .bad)) .bad) .bad) .bad) .bad) .bad)) .bad) .bad) .bad) .bad) .bad)
 (optK (rdLen P #[30] 3 (some [t0])) (fun x34 =>
  optK (rdBin P H .gtr 3 true (some x34) (some (.int .i64 0))) (fun x35 =>
  bvK x35 (fun b36 => .ret ⟨.ret (.bool b36), false, H, nx⟩) .bad) .bad) .bad)) .bad) .bad) .bad := by kernel_rfl
theorem q12_12 (t0 : Value) (t3 : Value) (t46 : Bool) (H : T OB) (nx : Nat) : evT P pl (l12_12 t0 t3 t46 H nx) =
  bK t46
 (.ret ⟨.ret (.bool false), false, H, nx⟩)
 (optK (rdBin P H .add 3 true (some t3) (some (.int .i64 1))) (fun x0 =>
  .jump (l12_7 t0 x0 H nx)) .bad) := by kernel_rfl
/-! kindling/anf.Right -/
noncomputable def l18_7 (t0 : Value) (t6 : Value) (t7 : Value) (t8 : Value) (H : T OB) (nx : Nat) : Cfg := .at ⟨18, 46, false, [], none, false⟩ (tmOf [(0, t0), (6, t6), (7, t7), (8, t8)]) (todoOf P 18 7) H nx
noncomputable def l18_14 (t0 : Value) (t6 : Value) (t7 : Value) (t8 : Value) (t41 : Bool) (H : T OB) (nx : Nat) : Cfg := .at ⟨18, 46, false, [], none, false⟩ (tmOf [(0, t0), (6, t6), (7, t7), (8, t8), (41, .bool t41)]) (todoOf P 18 14) H nx
theorem q18 (a0 : Value) (H : T OB) (nx : Nat) : evT P pl (.call 18 [a0] false none H nx) =
  optK (rdLen P #[30] 3 (some [a0])) (fun x0 =>
  .jump (l18_7 a0 a0 x0 (.int .i64 0) H nx)) .bad := by kernel_rfl
theorem q18_7 (t0 : Value) (t6 : Value) (t7 : Value) (t8 : Value) (H : T OB) (nx : Nat) : evT P pl (l18_7 t0 t6 t7 t8 H nx) =
  optK (rdBin P H .lss 3 false (some t8) (some t7)) (fun x0 =>
  bvK x0 (fun b1 => bK b1
 (optK (rdIndexAddr P 30 (some t6) (some t8)) (fun x2 =>
  optK (rdLoad P H 69 (some x2)) (fun x3 =>
  effQ (efAlloc P H nx 69) (fun x4 H nx =>
  frSt P H nx 69 (some x4) x3 (fun H nx =>
  optK (rdLoad P H 69 (some (eptrV x3))) (fun x5 =>
  optK (rdBuild P 95 (some [(0, t0), (1, x5), (2, t8)])) (fun x6 =>
  natF (Nat.succ nx) (fun nx =>
  optK (rdFieldAddr P 69 (some (eptrV x3)) 0) (fun x7 =>
  optK (rdLoad P H 3 (some x7)) (fun x8 =>
  optK (rdBin P H .lss 3 true (some x8) (some (.int .i64 0))) (fun x9 =>
  bvK x9 (fun b10 => bK b10 (.jump (l18_14 t0 t6 t7 t8 true H nx)) (optK (rdFieldAddr P 69 (some (eptrV x3)) 1) (fun x11 =>
  optK (rdLoad P H 3 (some x11)) (fun x12 =>
  optK (rdBin P H .lss 3 true (some x12) (some (.int .i64 0))) (fun x13 =>
  bvK x13 (fun b14 => bK b14 (.jump (l18_14 t0 t6 t7 t8 true H nx)) (optK (rdBin P H .eql 3 true (some t8) (some (.int .i64 0))) (fun x15 =>
  bvK x15 (fun b16 => bK b16 (optK (rdFieldAddr P 69 (some (eptrV x3)) 0) (fun x17 =>
  optK (rdLoad P H 3 (some x17)) (fun x18 =>
  optK (rdBin P H .gtr 3 true (some x18) (some (.int .i64 0))) (fun x19 =>
  bvK x19 (fun b20 => bK b20 (.jump (l18_14 t0 t6 t7 t8 true H nx)) (optK (rdFieldAddr P 69 (some (eptrV x3)) 2) (fun x21 =>
  optK (rdLoad P H 67 (some x21)) (fun x22 =>
  callQ (.call 45 [(eptrV x6), x22, (.pointer none), (.bool true)] false none H nx) (fun x23 H nx =>
  bvK x23 (fun b24 => optK (unV P .not (some (.bool b24))) (fun x25 =>
  bvK x25 (fun b26 => .jump (l18_14 t0 t6 t7 t8 b26 H nx)) .bad) .bad) .bad) panK) .bad) .bad)) .bad) .bad) .bad) .bad) (optK (rdFieldAddr P 69 (some (eptrV x3)) 2) (fun x27 =>
  optK (rdLoad P H 67 (some x27)) (fun x28 =>
  callQ (.call 45 [(eptrV x6), x28, (.pointer none), (.bool true)] false none H nx) (fun x29 H nx =>
  bvK x29 (fun b30 => optK (unV P .not (some (.bool b30))) (fun x31 =>
  bvK x31 (fun b32 => .jump (l18_14 t0 t6 t7 t8 b32 H nx)) .bad) .bad) .bad) panK) .bad) .bad)) .bad) .bad)) .bad) .bad) .bad) .bad)) .bad) .bad) .bad) .bad)) .bad) .bad))) .bad) .bad)
 (optK (rdLen P #[30] 3 (some [t0])) (fun x33 =>
  optK (rdBin P H .gtr 3 true (some x33) (some (.int .i64 0))) (fun x34 =>
  bvK x34 (fun b35 => .ret ⟨.ret (.bool b35), false, H, nx⟩) .bad) .bad) .bad)) .bad) .bad := by kernel_rfl
theorem q18_14 (t0 : Value) (t6 : Value) (t7 : Value) (t8 : Value) (t41 : Bool) (H : T OB) (nx : Nat) : evT P pl (l18_14 t0 t6 t7 t8 t41 H nx) =
  bK t41
 (.ret ⟨.ret (.bool false), false, H, nx⟩)
 (optK (rdBin P H .add 3 true (some t8) (some (.int .i64 1))) (fun x0 =>
  .jump (l18_7 t0 t6 t7 x0 H nx)) .bad) := by kernel_rfl
/-! kindling/kindlingref11.Size -/
noncomputable def l21_9 (t0 : Value) (t1 : Value) (t5 : Value) (t6 : Value) (H : T OB) (nx : Nat) : Cfg := .at ⟨21, 31, false, [], none, false⟩ (tmOf [(0, t0), (1, t1), (5, t5), (6, t6)]) (todoOf P 21 9) H nx
theorem q21 (a0 : Value) (a1 : Value) (H : T OB) (nx : Nat) : evT P pl (.call 21 [a0, a1] false none H nx) =
  .jump (l21_9 a0 a1 (.int .i64 0) (.int .i64 0) H nx) := by kernel_rfl
theorem q21_9 (t0 : Value) (t1 : Value) (t5 : Value) (t6 : Value) (H : T OB) (nx : Nat) : evT P pl (l21_9 t0 t1 t5 t6 H nx) =
  optK (rdLen P #[30] 3 (some [t0])) (fun x0 =>
  optK (rdBin P H .lss 3 false (some t6) (some x0)) (fun x1 =>
  bvK x1 (fun b2 => bK b2 (optK (rdBin P H .leq 3 false (some t5) (some t1)) (fun x3 =>
  bvK x3 (fun b4 => bK b4
 (optK (rdBin P H .add 3 true (some t5) (some (.int .i64 1))) (fun x5 =>
  optK (rdIndexAddr P 30 (some t0) (some t6)) (fun x6 =>
  optK (rdFieldAddr P 69 (some x6) 2) (fun x7 =>
  optK (rdLoad P H 67 (some x7)) (fun x8 =>
  optK (rdBin P H .sub 3 false (some t1) (some t5)) (fun x9 =>
  callQ (.call 47 [x8, x9] false none H nx) (fun x10 H nx =>
  optK (rdBin P H .add 3 false (some x5) (some x10)) (fun x11 =>
  optK (rdBin P H .add 3 true (some t6) (some (.int .i64 1))) (fun x12 =>
  .jump (l21_9 t0 t1 x11 x12 H nx)) .bad) .bad) panK) .bad) .bad) .bad) .bad) .bad)
 (.ret ⟨.ret t5, false, H, nx⟩)) .bad) .bad) (.ret ⟨.ret t5, false, H, nx⟩)) .bad) .bad) .bad := by kernel_rfl
/-! kindling/anf.Text -/
noncomputable def l22_13 (t3 : Value) (t11 : Value) (t12 : Value) (t13 : Value) (H : T OB) (nx : Nat) : Cfg := .at ⟨22, 39, false, [], none, false⟩ (tmOf [(3, t3), (11, t11), (12, t12), (13, t13)]) (todoOf P 22 13) H nx
theorem q22 (a0 : Value) (H : T OB) (nx : Nat) : evT P pl (.call 22 [a0] false none H nx) =
  callQ (.call 18 [a0] false none H nx) (fun x0 H nx =>
  bvK x0 (fun b1 => optK (unV P .not (some (.bool b1))) (fun x2 =>
  bvK x2 (fun b3 => bK b3
 (.ret ⟨.ret (.string ⟨⟨[]⟩⟩), false, H, nx⟩)
 (effQ (efBox H nx 102 (some (.agg ⟨[(.slice none 0 0)]⟩))) (fun x4 H nx =>
  optK (rdLen P #[30] 3 (some [a0])) (fun x5 =>
  .jump (l22_13 x4 a0 x5 (.int .i64 0) H nx)) .bad))) .bad) .bad) .bad) panK := by kernel_rfl
theorem q22_13 (t3 : Value) (t11 : Value) (t12 : Value) (t13 : Value) (H : T OB) (nx : Nat) : evT P pl (l22_13 t3 t11 t12 t13 H nx) =
  optK (rdBin P H .lss 3 false (some t13) (some t12)) (fun x0 =>
  bvK x0 (fun b1 => bK b1
 (optK (rdIndexAddr P 30 (some t11) (some t13)) (fun x2 =>
  optK (rdLoad P H 69 (some x2)) (fun x3 =>
  effQ (efAlloc P H nx 69) (fun x4 H nx =>
  frSt P H nx 69 (some x4) x3 (fun H nx =>
  optK (rdFieldAddr P 69 (some (eptrV x3)) 0) (fun x5 =>
  optK (rdLoad P H 3 (some x5)) (fun x6 =>
  optK (rdFieldAddr P 69 (some (eptrV x3)) 1) (fun x7 =>
  optK (rdLoad P H 3 (some x7)) (fun x8 =>
  callQ (.call 49 [x6] false none H nx) (fun x9 H nx =>
  bK (optK (rdLoad P H 3 (some x7)) (fun u => vEq u x8) false && true) (callQ (.call 49 [x8] false none H nx) (fun x10 H nx =>
  effQ (efBuildSlice P H nx 148 5 (some [(0, (.string ⟨⟨[40, 102, 117, 110, 32]⟩⟩)), (1, x9), (2, (.string ⟨⟨[32]⟩⟩)), (3, x10), (4, (.string ⟨⟨[32]⟩⟩))])) (fun x11 H nx =>
  callQ (.call 48 [t3, x11] false none H nx) (fun x12 H nx =>
  optK (rdFieldAddr P 69 (some (eptrV x3)) 2) (fun x13 =>
  optK (rdLoad P H 67 (some x13)) (fun x14 =>
  callQ (.call 50 [t3, x14] false none H nx) (fun x15 H nx =>
  effQ (efBuildSlice P H nx 148 1 (some [(0, (.string ⟨⟨[41, 10]⟩⟩))])) (fun x16 H nx =>
  callQ (.call 48 [t3, x16] false none H nx) (fun x17 H nx =>
  optK (rdBin P H .add 3 true (some t13) (some (.int .i64 1))) (fun x18 =>
  .jump (l22_13 t3 t11 t12 x18 H nx)) .bad) panK)) panK) .bad) .bad) panK)) panK) .bad) panK) .bad) .bad) .bad) .bad))) .bad) .bad)
 (optK (rdNil (some t3)) (fun x19 =>
  optK (rdFieldAddr P 102 (some x19) 0) (fun x20 =>
  optK (rdLoad P H 100 (some x20)) (fun x21 =>
  optK (rdConv P H 100 9 (some x21)) (fun x22 =>
  .ret ⟨.ret x22, false, H, nx⟩) .bad) .bad) .bad) .bad)) .bad) .bad := by kernel_rfl
/-! kindling/kindlingref11.Text -/
noncomputable def l23_13 (t0 : Value) (t3 : Value) (t4 : Value) (H : T OB) (nx : Nat) : Cfg := .at ⟨23, 41, false, [], none, false⟩ (tmOf [(0, t0), (3, t3), (4, t4)]) (todoOf P 23 13) H nx
theorem q23 (a0 : Value) (H : T OB) (nx : Nat) : evT P pl (.call 23 [a0] false none H nx) =
  callQ (.call 12 [a0] false none H nx) (fun x0 H nx =>
  bvK x0 (fun b1 => optK (unV P .not (some (.bool b1))) (fun x2 =>
  bvK x2 (fun b3 => bK b3
 (.ret ⟨.ret (.string ⟨⟨[]⟩⟩), false, H, nx⟩)
 (.jump (l23_13 a0 (.string ⟨⟨[]⟩⟩) (.int .i64 0) H nx))) .bad) .bad) .bad) panK := by kernel_rfl
theorem q23_13 (t0 : Value) (t3 : Value) (t4 : Value) (H : T OB) (nx : Nat) : evT P pl (l23_13 t0 t3 t4 H nx) =
  optK (rdLen P #[30] 3 (some [t0])) (fun x0 =>
  optK (rdBin P H .lss 3 false (some t4) (some x0)) (fun x1 =>
  bvK x1 (fun b2 => bK b2
 (optK (rdBin P H .add 9 true (some t3) (some (.string ⟨⟨[40, 102, 117, 110, 32]⟩⟩))) (fun x3 =>
  optK (rdIndexAddr P 30 (some t0) (some t4)) (fun x4 =>
  optK (rdFieldAddr P 69 (some x4) 0) (fun x5 =>
  optK (rdLoad P H 3 (some x5)) (fun x6 =>
  optK (rdIndexAddr P 30 (some t0) (some t4)) (fun x7 =>
  optK (rdFieldAddr P 69 (some x7) 1) (fun x8 =>
  optK (rdLoad P H 3 (some x8)) (fun x9 =>
  optK (rdIndexAddr P 30 (some t0) (some t4)) (fun x10 =>
  optK (rdFieldAddr P 69 (some x10) 2) (fun x11 =>
  optK (rdLoad P H 67 (some x11)) (fun x12 =>
  callQ (.call 51 [x6] false none H nx) (fun x13 H nx =>
  bK (optK (rdLoad P H 67 (some x11)) (fun u => vEq u x12) false && (optK (rdLoad P H 3 (some x8)) (fun u => vEq u x9) false && (optK (rdBin P H .add 9 true (some t3) (some (.string ⟨⟨[40, 102, 117, 110, 32]⟩⟩))) (fun u => vEq u x3) false && true))) (optK (rdBin P H .add 9 false (some x3) (some x13)) (fun x14 =>
  optK (rdBin P H .add 9 true (some x14) (some (.string ⟨⟨[32]⟩⟩))) (fun x15 =>
  callQ (.call 51 [x9] false none H nx) (fun x16 H nx =>
  bK (optK (rdBin P H .add 9 true (some x14) (some (.string ⟨⟨[32]⟩⟩))) (fun u => vEq u x15) false && (optK (rdBin P H .add 9 false (some x3) (some x13)) (fun u => vEq u x14) false && (optK (rdLoad P H 67 (some x11)) (fun u => vEq u x12) false && (optK (rdBin P H .add 9 true (some t3) (some (.string ⟨⟨[40, 102, 117, 110, 32]⟩⟩))) (fun u => vEq u x3) false && true)))) (optK (rdBin P H .add 9 false (some x15) (some x16)) (fun x17 =>
  optK (rdBin P H .add 9 true (some x17) (some (.string ⟨⟨[32]⟩⟩))) (fun x18 =>
  callQ (.call 52 [x12] false none H nx) (fun x19 H nx =>
  bK (optK (rdBin P H .add 9 true (some x17) (some (.string ⟨⟨[32]⟩⟩))) (fun u => vEq u x18) false && (optK (rdBin P H .add 9 false (some x15) (some x16)) (fun u => vEq u x17) false && (optK (rdBin P H .add 9 true (some x14) (some (.string ⟨⟨[32]⟩⟩))) (fun u => vEq u x15) false && (optK (rdBin P H .add 9 false (some x3) (some x13)) (fun u => vEq u x14) false && (optK (rdBin P H .add 9 true (some t3) (some (.string ⟨⟨[40, 102, 117, 110, 32]⟩⟩))) (fun u => vEq u x3) false && true))))) (optK (rdBin P H .add 9 false (some x18) (some x19)) (fun x20 =>
  optK (rdBin P H .add 9 true (some x20) (some (.string ⟨⟨[41, 10]⟩⟩))) (fun x21 =>
  optK (rdBin P H .add 3 true (some t4) (some (.int .i64 1))) (fun x22 =>
  .jump (l23_13 t0 x21 x22 H nx)) .bad) .bad) .bad) .bad) panK) .bad) .bad) .bad) panK) .bad) .bad) .bad) panK) .bad) .bad) .bad) .bad) .bad) .bad) .bad) .bad) .bad) .bad)
 (.ret ⟨.ret t3, false, H, nx⟩)) .bad) .bad) .bad := by kernel_rfl
/-! kindling/core.Right -/
noncomputable def l33_11 (t9 : Value) (t10 : Value) (t11 : Value) (H : T OB) (nx : Nat) : Cfg := .at ⟨33, 19, false, [], none, false⟩ (tmOf [(9, t9), (10, t10), (11, t11)]) (todoOf P 33 11) H nx
theorem q33 (a0 : Value) (H : T OB) (nx : Nat) : evT P pl (.call 33 [a0] false none H nx) =
  frzV P 25 a0 H nx (fun x0 H nx =>
  natF (Nat.succ nx) (fun nx =>
  optK (rdLoad P H 25 (some (eptrV x0))) (fun x1 =>
  callQ (.call 56 [x1] false none H nx) (fun x2 H nx =>
  bvK x2 (fun b3 => optK (unV P .not (some (.bool b3))) (fun x4 =>
  bvK x4 (fun b5 => bK b5
 (.ret ⟨.ret (.bool false), false, H, nx⟩)
 (optK (rdFieldAddr P 25 (some (eptrV x0)) 5) (fun x6 =>
  optK (rdLoad P H 23 (some x6)) (fun x7 =>
  optK (rdLen P #[23] 3 (some [x7])) (fun x8 =>
  .jump (l33_11 x7 x8 (.int .i64 0) H nx)) .bad) .bad) .bad)) .bad) .bad) .bad) panK) .bad)) := by kernel_rfl
theorem q33_11 (t9 : Value) (t10 : Value) (t11 : Value) (H : T OB) (nx : Nat) : evT P pl (l33_11 t9 t10 t11 H nx) =
  optK (rdBin P H .lss 3 false (some t11) (some t10)) (fun x0 =>
  bvK x0 (fun b1 => bK b1
 (optK (rdIndexAddr P 23 (some t9) (some t11)) (fun x2 =>
  optK (rdLoad P H 25 (some x2)) (fun x3 =>
  effQ (efAlloc P H nx 25) (fun x4 H nx =>
  frSt P H nx 25 (some x4) x3 (fun H nx =>
  optK (rdLoad P H 25 (some (eptrV x3))) (fun x5 =>
  callQ (.call 33 [x5] false none H nx) (fun x6 H nx =>
  bvK x6 (fun b7 => optK (unV P .not (some (.bool b7))) (fun x8 =>
  bvK x8 (fun b9 => bK b9
 (.ret ⟨.ret (.bool false), false, H, nx⟩)
 (optK (rdBin P H .add 3 true (some t11) (some (.int .i64 1))) (fun x10 =>
  .jump (l33_11 t9 t10 x10 H nx)) .bad)) .bad) .bad) .bad) panK) .bad))) .bad) .bad)
 (.ret ⟨.ret (.bool true), false, H, nx⟩)) .bad) .bad := by kernel_rfl
/-! kindling/kindlingref11.rightBlock -/
noncomputable def l38_7 (t0 : Value) (t1 : Value) (t3 : Value) (t4 : Bool) (t7 : Value) (t11 : Value) (H : T OB) (nx : Nat) : Cfg := .at ⟨38, 148, false, [], none, false⟩ (tmOf [(0, t0), (1, t1), (3, t3), (4, .bool t4), (7, t7), (11, t11)]) (todoOf P 38 7) H nx
noncomputable def l38_24 (t0 : Value) (t1 : Value) (t3 : Value) (t4 : Bool) (t7 : Value) (t11 : Value) (t12 : Value) (t13 : Value) (H : T OB) (nx : Nat) : Cfg := .at ⟨38, 148, false, [], none, false⟩ (tmOf [(0, t0), (1, t1), (3, t3), (4, .bool t4), (7, t7), (11, t11), (12, t12), (13, t13)]) (todoOf P 38 24) H nx
noncomputable def l38_28 (t0 : Value) (t1 : Value) (t3 : Value) (t4 : Bool) (t7 : Value) (t11 : Value) (t12 : Value) (H : T OB) (nx : Nat) : Cfg := .at ⟨38, 148, false, [], none, false⟩ (tmOf [(0, t0), (1, t1), (3, t3), (4, .bool t4), (7, t7), (11, t11), (12, t12)]) (todoOf P 38 28) H nx
noncomputable def l38_42 (t0 : Value) (t1 : Value) (t3 : Value) (t4 : Bool) (t7 : Value) (t84 : Value) (t85 : Bool) (H : T OB) (nx : Nat) : Cfg := .at ⟨38, 148, false, [], none, false⟩ (tmOf [(0, t0), (1, t1), (3, t3), (4, .bool t4), (7, t7), (84, t84), (85, .bool t85)]) (todoOf P 38 42) H nx
noncomputable def l38_26 (t0 : Value) (t1 : Value) (t3 : Value) (t4 : Bool) (t7 : Value) (t11 : Value) (t12 : Value) (t63 : Bool) (H : T OB) (nx : Nat) : Cfg := .at ⟨38, 148, false, [], none, false⟩ (tmOf [(0, t0), (1, t1), (3, t3), (4, .bool t4), (7, t7), (11, t11), (12, t12), (63, .bool t63)]) (todoOf P 38 26) H nx
noncomputable def l38_30 (t0 : Value) (t1 : Value) (t3 : Value) (t4 : Bool) (t7 : Value) (t11 : Value) (t12 : Value) (t71 : Bool) (H : T OB) (nx : Nat) : Cfg := .at ⟨38, 148, false, [], none, false⟩ (tmOf [(0, t0), (1, t1), (3, t3), (4, .bool t4), (7, t7), (11, t11), (12, t12), (71, .bool t71)]) (todoOf P 38 30) H nx
theorem q38 (a0 : Value) (a1 : Value) (a2 : Value) (a3 : Value) (a4 : Bool) (H : T OB) (nx : Nat) : evT P pl (.call 38 [a0, a1, a2, a3, .bool a4] false none H nx) =
  natF (Nat.succ nx) (fun nx =>
  .jump (l38_7 a0 a1 a3 a4 (eptrV a2) (.int .i64 0) H nx)) := by kernel_rfl
theorem q38_7 (t0 : Value) (t1 : Value) (t3 : Value) (t4 : Bool) (t7 : Value) (t11 : Value) (H : T OB) (nx : Nat) : evT P pl (l38_7 t0 t1 t3 t4 t7 t11 H nx) =
  optK (rdFieldAddr P 67 (some t7) 0) (fun x0 =>
  optK (rdLoad P H 63 (some x0)) (fun x1 =>
  optK (rdLen P #[63] 3 (some [x1])) (fun x2 =>
  optK (rdBin P H .lss 3 false (some t11) (some x2)) (fun x3 =>
  bvK x3 (fun b4 => bK b4
 (optK (rdFieldAddr P 67 (some t7) 0) (fun x5 =>
  optK (rdLoad P H 63 (some x5)) (fun x6 =>
  optK (rdIndexAddr P 63 (some x6) (some t11)) (fun x7 =>
  optK (rdLoad P H 125 (some x7)) (fun x8 =>
  effQ (efAlloc P H nx 125) (fun x9 H nx =>
  frSt P H nx 125 (some x9) x8 (fun H nx =>
  optK (rdLoad P H 125 (some (eptrV x8))) (fun x10 =>
  callQ (.call 61 [t0, t1, x10, t3] false none H nx) (fun x11 H nx =>
  bvK x11 (fun b12 => optK (unV P .not (some (.bool b12))) (fun x13 =>
  bvK x13 (fun b14 => bK b14
 (.ret ⟨.ret (.bool false), false, H, nx⟩)
 (optK (rdFieldAddr P 125 (some (eptrV x8)) 4) (fun x15 =>
  optK (rdLoad P H 65 (some x15)) (fun x16 =>
  optK (rdLen P #[65] 3 (some [x16])) (fun x17 =>
  optK (rdBin P H .eql 3 true (some x17) (some (.int .i64 2))) (fun x18 =>
  bvK x18 (fun b19 => bK b19
 (optK (rdFieldAddr P 125 (some (eptrV x8)) 0) (fun x20 =>
  optK (rdLoad P H 3 (some x20)) (fun x21 =>
  optK (rdBin P H .eql 3 true (some x21) (some (.int .i64 10))) (fun x22 =>
  bvK x22 (fun b23 => bK b23
 (optK (rdFieldAddr P 125 (some (eptrV x8)) 2) (fun x24 =>
  optK (rdLoad P H 3 (some x24)) (fun x25 =>
  callQ (.call 62 [t3, x25] false none H nx) (fun x26 H nx =>
  .jump (l38_24 t0 t1 t3 t4 t7 t11 (eptrV x8) x26 H nx)) panK) .bad) .bad)
 (.jump (l38_24 t0 t1 t3 t4 t7 t11 (eptrV x8) t3 H nx))) .bad) .bad) .bad) .bad)
 (.jump (l38_28 t0 t1 t3 t4 t7 t11 (eptrV x8) H nx))) .bad) .bad) .bad) .bad) .bad)) .bad) .bad) .bad) panK) .bad))) .bad) .bad) .bad) .bad)
 (optK (rdFieldAddr P 67 (some t7) 2) (fun x27 =>
  optK (rdLoad P H 64 (some x27)) (fun x28 =>
  callQ (.call 63 [t0, t1, x28, t3] false none H nx) (fun x29 H nx =>
  bvK x29 (fun b30 => optK (unV P .not (some (.bool b30))) (fun x31 =>
  bvK x31 (fun b32 => bK b32
 (.ret ⟨.ret (.bool false), false, H, nx⟩)
 (optK (rdFieldAddr P 67 (some t7) 1) (fun x33 =>
  optK (rdLoad P H 3 (some x33)) (fun x34 =>
  optK (rdBin P H .eql 3 true (some x34) (some (.int .i64 1))) (fun x35 =>
  bvK x35 (fun b36 => bK b36
 (.jump (l38_42 t0 t1 t3 t4 t7 x34 b36 H nx))
 (optK (rdBin P H .eql 3 true (some x34) (some (.int .i64 3))) (fun x37 =>
  bvK x37 (fun b38 => .jump (l38_42 t0 t1 t3 t4 t7 x34 b38 H nx)) .bad) .bad)) .bad) .bad) .bad) .bad)) .bad) .bad) .bad) panK) .bad) .bad)) .bad) .bad) .bad) .bad) .bad := by kernel_rfl
theorem q38_24 (t0 : Value) (t1 : Value) (t3 : Value) (t4 : Bool) (t7 : Value) (t11 : Value) (t12 : Value) (t13 : Value) (H : T OB) (nx : Nat) : evT P pl (l38_24 t0 t1 t3 t4 t7 t11 t12 t13 H nx) =
  optK (rdFieldAddr P 125 (some t12) 4) (fun x0 =>
  optK (rdLoad P H 65 (some x0)) (fun x1 =>
  optK (rdIndexAddr P 65 (some x1) (some (.int .i64 0))) (fun x2 =>
  optK (rdLoad P H 67 (some x2)) (fun x3 =>
  callQ (.call 38 [t0, t1, x3, t3, (.bool true)] false none H nx) (fun x4 H nx =>
  bvK x4 (fun b5 => optK (unV P .not (some (.bool b5))) (fun x6 =>
  bvK x6 (fun b7 => bK b7 (.jump (l38_26 t0 t1 t3 t4 t7 t11 t12 true H nx)) (optK (rdFieldAddr P 125 (some t12) 4) (fun x8 =>
  optK (rdLoad P H 65 (some x8)) (fun x9 =>
  optK (rdIndexAddr P 65 (some x9) (some (.int .i64 1))) (fun x10 =>
  optK (rdLoad P H 67 (some x10)) (fun x11 =>
  callQ (.call 38 [t0, t1, x11, t13, (.bool true)] false none H nx) (fun x12 H nx =>
  bvK x12 (fun b13 => optK (unV P .not (some (.bool b13))) (fun x14 =>
  bvK x14 (fun b15 => .jump (l38_26 t0 t1 t3 t4 t7 t11 t12 b15 H nx)) .bad) .bad) .bad) panK) .bad) .bad) .bad) .bad)) .bad) .bad) .bad) panK) .bad) .bad) .bad) .bad := by kernel_rfl
theorem q38_28 (t0 : Value) (t1 : Value) (t3 : Value) (t4 : Bool) (t7 : Value) (t11 : Value) (t12 : Value) (H : T OB) (nx : Nat) : evT P pl (l38_28 t0 t1 t3 t4 t7 t11 t12 H nx) =
  optK (rdFieldAddr P 125 (some t12) 0) (fun x0 =>
  optK (rdLoad P H 3 (some x0)) (fun x1 =>
  optK (rdBin P H .neq 3 true (some x1) (some (.int .i64 5))) (fun x2 =>
  bvK x2 (fun b3 => bK b3 (optK (rdFieldAddr P 125 (some t12) 0) (fun x4 =>
  optK (rdLoad P H 3 (some x4)) (fun x5 =>
  optK (rdBin P H .neq 3 true (some x5) (some (.int .i64 8))) (fun x6 =>
  bvK x6 (fun b7 => .jump (l38_30 t0 t1 t3 t4 t7 t11 t12 b7 H nx)) .bad) .bad) .bad) .bad) (.jump (l38_30 t0 t1 t3 t4 t7 t11 t12 false H nx))) .bad) .bad) .bad) .bad := by kernel_rfl
theorem q38_42 (t0 : Value) (t1 : Value) (t3 : Value) (t4 : Bool) (t7 : Value) (t84 : Value) (t85 : Bool) (H : T OB) (nx : Nat) : evT P pl (l38_42 t0 t1 t3 t4 t7 t84 t85 H nx) =
  bK t85
 (optK (rdFieldAddr P 67 (some t7) 2) (fun x0 =>
  optK (rdLoad P H 64 (some x0)) (fun x1 =>
  optK (rdLen P #[64] 3 (some [x1])) (fun x2 =>
  optK (rdBin P H .eql 3 true (some x2) (some (.int .i64 1))) (fun x3 =>
  bvK x3 (fun b4 => bK b4 (optK (rdFieldAddr P 67 (some t7) 3) (fun x5 =>
  optK (rdLoad P H 65 (some x5)) (fun x6 =>
  optK (rdLen P #[65] 3 (some [x6])) (fun x7 =>
  optK (rdBin P H .eql 3 true (some x7) (some (.int .i64 0))) (fun x8 =>
  bvK x8 (fun b9 => .ret ⟨.ret (.bool b9), false, H, nx⟩) .bad) .bad) .bad) .bad) .bad) (.ret ⟨.ret (.bool false), false, H, nx⟩)) .bad) .bad) .bad) .bad) .bad)
 (optK (rdBin P H .eql 3 true (some t84) (some (.int .i64 2))) (fun x10 =>
  bvK x10 (fun b11 => bK b11
 (optK (rdFieldAddr P 67 (some t7) 2) (fun x12 =>
  optK (rdLoad P H 64 (some x12)) (fun x13 =>
  optK (rdLen P #[64] 3 (some [x13])) (fun x14 =>
  optK (rdBin P H .eql 3 true (some x14) (some (.int .i64 2))) (fun x15 =>
  bvK x15 (fun b16 => bK b16 (optK (rdFieldAddr P 67 (some t7) 3) (fun x17 =>
  optK (rdLoad P H 65 (some x17)) (fun x18 =>
  optK (rdLen P #[65] 3 (some [x18])) (fun x19 =>
  optK (rdBin P H .eql 3 true (some x19) (some (.int .i64 0))) (fun x20 =>
  bvK x20 (fun b21 => bK b21 (optK (unV P .not (some (.bool t4))) (fun x22 =>
  bvK x22 (fun b23 => .ret ⟨.ret (.bool b23), false, H, nx⟩) .bad) .bad) (.ret ⟨.ret (.bool false), false, H, nx⟩)) .bad) .bad) .bad) .bad) .bad) (.ret ⟨.ret (.bool false), false, H, nx⟩)) .bad) .bad) .bad) .bad) .bad)
 (optK (rdBin P H .eql 3 true (some t84) (some (.int .i64 4))) (fun x24 =>
  bvK x24 (fun b25 => bK b25
 (optK (rdFieldAddr P 67 (some t7) 2) (fun x26 =>
  optK (rdLoad P H 64 (some x26)) (fun x27 =>
  optK (rdLen P #[64] 3 (some [x27])) (fun x28 =>
  optK (rdBin P H .eql 3 true (some x28) (some (.int .i64 1))) (fun x29 =>
  bvK x29 (fun b30 => bK b30 (optK (rdFieldAddr P 67 (some t7) 3) (fun x31 =>
  optK (rdLoad P H 65 (some x31)) (fun x32 =>
  optK (rdLen P #[65] 3 (some [x32])) (fun x33 =>
  optK (rdBin P H .eql 3 true (some x33) (some (.int .i64 2))) (fun x34 =>
  bvK x34 (fun b35 => bK b35 (optK (rdFieldAddr P 67 (some t7) 3) (fun x36 =>
  optK (rdLoad P H 65 (some x36)) (fun x37 =>
  optK (rdIndexAddr P 65 (some x37) (some (.int .i64 0))) (fun x38 =>
  optK (rdLoad P H 67 (some x38)) (fun x39 =>
  callQ (.call 38 [t0, t1, x39, t3, (.bool t4)] false none H nx) (fun x40 H nx =>
  bvK x40 (fun b41 => bK b41 (optK (rdFieldAddr P 67 (some t7) 3) (fun x42 =>
  optK (rdLoad P H 65 (some x42)) (fun x43 =>
  optK (rdIndexAddr P 65 (some x43) (some (.int .i64 1))) (fun x44 =>
  optK (rdLoad P H 67 (some x44)) (fun x45 =>
  callQ (.call 38 [t0, t1, x45, t3, (.bool t4)] false none H nx) (fun x46 H nx =>
  bvK x46 (fun b47 => .ret ⟨.ret (.bool b47), false, H, nx⟩) .bad) panK) .bad) .bad) .bad) .bad) (.ret ⟨.ret (.bool false), false, H, nx⟩)) .bad) panK) .bad) .bad) .bad) .bad) (.ret ⟨.ret (.bool false), false, H, nx⟩)) .bad) .bad) .bad) .bad) .bad) (.ret ⟨.ret (.bool false), false, H, nx⟩)) .bad) .bad) .bad) .bad) .bad)
 (.ret ⟨.ret (.bool false), false, H, nx⟩)) .bad) .bad)) .bad) .bad) := by kernel_rfl
theorem q38_26 (t0 : Value) (t1 : Value) (t3 : Value) (t4 : Bool) (t7 : Value) (t11 : Value) (t12 : Value) (t63 : Bool) (H : T OB) (nx : Nat) : evT P pl (l38_26 t0 t1 t3 t4 t7 t11 t12 t63 H nx) =
  bK t63
 (.ret ⟨.ret (.bool false), false, H, nx⟩)
 (optK (rdFieldAddr P 125 (some t12) 0) (fun x0 =>
  optK (rdLoad P H 3 (some x0)) (fun x1 =>
  optK (rdBin P H .neq 3 true (some x1) (some (.int .i64 5))) (fun x2 =>
  bvK x2 (fun b3 => bK b3 (optK (rdFieldAddr P 125 (some t12) 0) (fun x4 =>
  optK (rdLoad P H 3 (some x4)) (fun x5 =>
  optK (rdBin P H .neq 3 true (some x5) (some (.int .i64 8))) (fun x6 =>
  bvK x6 (fun b7 => .jump (l38_30 t0 t1 t3 t4 t7 t11 t12 b7 H nx)) .bad) .bad) .bad) .bad) (.jump (l38_30 t0 t1 t3 t4 t7 t11 t12 false H nx))) .bad) .bad) .bad) .bad) := by kernel_rfl
theorem q38_30 (t0 : Value) (t1 : Value) (t3 : Value) (t4 : Bool) (t7 : Value) (t11 : Value) (t12 : Value) (t71 : Bool) (H : T OB) (nx : Nat) : evT P pl (l38_30 t0 t1 t3 t4 t7 t11 t12 t71 H nx) =
  bK t71
 (optK (rdFieldAddr P 125 (some t12) 1) (fun x0 =>
  optK (rdLoad P H 3 (some x0)) (fun x1 =>
  callQ (.call 62 [t3, x1] false none H nx) (fun x2 H nx =>
  optK (rdBin P H .add 3 true (some t11) (some (.int .i64 1))) (fun x3 =>
  .jump (l38_7 t0 t1 x2 t4 t7 x3 H nx)) .bad) panK) .bad) .bad)
 (optK (rdBin P H .add 3 true (some t11) (some (.int .i64 1))) (fun x4 =>
  .jump (l38_7 t0 t1 t3 t4 t7 x4 H nx)) .bad) := by kernel_rfl
end
end Go.Proofs.YtfdgoenmdalphaaGreatDoor
