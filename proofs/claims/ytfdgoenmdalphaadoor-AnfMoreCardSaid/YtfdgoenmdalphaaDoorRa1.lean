/- What functions of the program say, as trees. -/
import Derived.Test.YtfdgoenmdalphaaDoorRa0
import Derived.KernelRfl
namespace Go.Proofs.YtfdgoenmdalphaaDoor
open Go.Ev Go.RowKit
noncomputable section
set_option linter.unusedVariables false
set_option maxHeartbeats 8000000
/-! kindling/kindlinglaw11.AnfMore -/
noncomputable def l3_18 (t0 : Value) (t8 : Value) (t9 : Bool) (t33 : Bool) (H : T OB) (nx : Nat) : Cfg := .at ⟨3, 64, false, [], none, false⟩ (tmOf [(0, t0), (8, t8), (9, .bool t9), (33, .bool t33)]) (todoOf P 3 18) H nx
theorem q3 (a0 : Value) (a1 : Value) (a2 : Value) (H : T OB) (nx : Nat) : evT P pl (.call 3 [a0, a1, a2] false none H nx) =
  callQ (.call 4 [a0, (.int .i64 500)] false none H nx) (fun x0 H nx =>
  optK (rdBin P H .gtr 3 true (some x0) (some (.int .i64 500))) (fun x1 =>
  bvK x1 (fun b2 => bK b2
 (callQ (.call 5 [] false none H nx) (fun x3 H nx =>
  bvK x3 (fun b4 => .ret ⟨.ret (.bool b4), false, H, nx⟩) .bad) panK)
 (effQ (efBuildSlice P H nx 27 1 (some [(0, (.agg ⟨[(.int .i64 4), (.int .i64 0), (.int .i64 0), (.string ⟨⟨[]⟩⟩)]⟩))])) (fun x5 H nx =>
  optK (rdBuild P 31 (some [(1, (.int .i64 1)), (2, x5)])) (fun x6 =>
  optK (rdBuild P 33 (some [(0, a1), (1, a2), (2, x6)])) (fun x7 =>
  effQ (efAlloc P H nx 33) (fun x8 H nx =>
  frSt P H nx 33 (some x8) x7 (fun H nx =>
  optK (rdLoad P H 33 (some (eptrV x7))) (fun x9 =>
  effQ (efBuildSlice P H nx 22 1 (some [(0, x9)])) (fun x10 H nx =>
  effQ (efAppS P H nx [22, 22] (some [(.slice none 0 0), a0])) (fun x11 H nx =>
  bK (optK (rdLoad P H 33 (some (eptrV x7))) (fun u => vEq u x9) false && true) (effQ (efAppS P H nx [22, 22] (some [x11, x10])) (fun x12 H nx =>
  callQ (.call 6 [a0] false none H nx) (fun x13 H nx =>
  bvK x13 (fun b14 => optK (rdBin P H .lss 3 true (some a1) (some (.int .i64 0))) (fun x15 =>
  bvK x15 (fun b16 => bK b16 (.jump (l3_18 a0 x12 b14 true H nx)) (optK (rdBin P H .lss 3 true (some a2) (some (.int .i64 0))) (fun x17 =>
  bvK x17 (fun b18 => .jump (l3_18 a0 x12 b14 b18 H nx)) .bad) .bad)) .bad) .bad) .bad) panK)) .bad))) .bad))) .bad) .bad))) .bad) .bad) panK := by kernel_rfl
theorem q3_18 (t0 : Value) (t8 : Value) (t9 : Bool) (t33 : Bool) (H : T OB) (nx : Nat) : evT P pl (l3_18 t0 t8 t9 t33 H nx) =
  bK t33
 (callQ (.call 6 [t8] false none H nx) (fun x0 H nx =>
  bvK x0 (fun b1 => optK (unV P .not (some (.bool b1))) (fun x2 =>
  bvK x2 (fun b3 => bK b3 (callQ (.call 5 [] false none H nx) (fun x4 H nx =>
  bvK x4 (fun b5 => .ret ⟨.ret (.bool b5), false, H, nx⟩) .bad) panK) (.ret ⟨.ret (.bool false), false, H, nx⟩)) .bad) .bad) .bad) panK)
 (optK (rdLen P #[22] 3 (some [t0])) (fun x6 =>
  optK (rdBin P H .eql 3 true (some x6) (some (.int .i64 0))) (fun x7 =>
  bvK x7 (fun b8 => bK b8 (optK (rdLen P #[22] 3 (some [t0])) (fun x35 =>
  optK (rdBin P H .gtr 3 true (some x35) (some (.int .i64 0))) (fun x36 =>
  bvK x36 (fun b37 => bK b37 (callQ (.call 5 [] false none H nx) (fun x44 H nx =>
  bvK x44 (fun b45 => .ret ⟨.ret (.bool b45), false, H, nx⟩) .bad) panK) (callQ (.call 6 [t8] false none H nx) (fun x38 H nx =>
  bvK x38 (fun b39 => optK (unV P .not (some (.bool b39))) (fun x40 =>
  bvK x40 (fun b41 => bK b41 (callQ (.call 5 [] false none H nx) (fun x42 H nx =>
  bvK x42 (fun b43 => .ret ⟨.ret (.bool b43), false, H, nx⟩) .bad) panK) (.ret ⟨.ret (.bool false), false, H, nx⟩)) .bad) .bad) .bad) panK)) .bad) .bad) .bad) (optK (unV P .not (some (.bool t9))) (fun x9 =>
  bvK x9 (fun b10 => bK b10 (optK (rdLen P #[22] 3 (some [t0])) (fun x24 =>
  optK (rdBin P H .gtr 3 true (some x24) (some (.int .i64 0))) (fun x25 =>
  bvK x25 (fun b26 => bK b26 (callQ (.call 5 [] false none H nx) (fun x33 H nx =>
  bvK x33 (fun b34 => .ret ⟨.ret (.bool b34), false, H, nx⟩) .bad) panK) (callQ (.call 6 [t8] false none H nx) (fun x27 H nx =>
  bvK x27 (fun b28 => optK (unV P .not (some (.bool b28))) (fun x29 =>
  bvK x29 (fun b30 => bK b30 (callQ (.call 5 [] false none H nx) (fun x31 H nx =>
  bvK x31 (fun b32 => .ret ⟨.ret (.bool b32), false, H, nx⟩) .bad) panK) (.ret ⟨.ret (.bool false), false, H, nx⟩)) .bad) .bad) .bad) panK)) .bad) .bad) .bad) (callQ (.call 6 [t8] false none H nx) (fun x11 H nx =>
  bvK x11 (fun b12 => bK b12 (optK (rdLen P #[22] 3 (some [t0])) (fun x13 =>
  optK (rdBin P H .gtr 3 true (some x13) (some (.int .i64 0))) (fun x14 =>
  bvK x14 (fun b15 => bK b15 (callQ (.call 5 [] false none H nx) (fun x22 H nx =>
  bvK x22 (fun b23 => .ret ⟨.ret (.bool b23), false, H, nx⟩) .bad) panK) (callQ (.call 6 [t8] false none H nx) (fun x16 H nx =>
  bvK x16 (fun b17 => optK (unV P .not (some (.bool b17))) (fun x18 =>
  bvK x18 (fun b19 => bK b19 (callQ (.call 5 [] false none H nx) (fun x20 H nx =>
  bvK x20 (fun b21 => .ret ⟨.ret (.bool b21), false, H, nx⟩) .bad) panK) (.ret ⟨.ret (.bool false), false, H, nx⟩)) .bad) .bad) .bad) panK)) .bad) .bad) .bad) (.ret ⟨.ret (.bool false), false, H, nx⟩)) .bad) panK)) .bad) .bad)) .bad) .bad) .bad) := by kernel_rfl
/-! kindling/kindlingref11.Size -/
noncomputable def l4_9 (t0 : Value) (t1 : Value) (t5 : Value) (t6 : Value) (H : T OB) (nx : Nat) : Cfg := .at ⟨4, 31, false, [], none, false⟩ (tmOf [(0, t0), (1, t1), (5, t5), (6, t6)]) (todoOf P 4 9) H nx
theorem q4 (a0 : Value) (a1 : Value) (H : T OB) (nx : Nat) : evT P pl (.call 4 [a0, a1] false none H nx) =
  .jump (l4_9 a0 a1 (.int .i64 0) (.int .i64 0) H nx) := by kernel_rfl
theorem q4_9 (t0 : Value) (t1 : Value) (t5 : Value) (t6 : Value) (H : T OB) (nx : Nat) : evT P pl (l4_9 t0 t1 t5 t6 H nx) =
  optK (rdLen P #[22] 3 (some [t0])) (fun x0 =>
  optK (rdBin P H .lss 3 false (some t6) (some x0)) (fun x1 =>
  bvK x1 (fun b2 => bK b2 (optK (rdBin P H .leq 3 false (some t5) (some t1)) (fun x3 =>
  bvK x3 (fun b4 => bK b4
 (optK (rdBin P H .add 3 true (some t5) (some (.int .i64 1))) (fun x5 =>
  optK (rdIndexAddr P 22 (some t0) (some t6)) (fun x6 =>
  optK (rdFieldAddr P 33 (some x6) 2) (fun x7 =>
  optK (rdLoad P H 31 (some x7)) (fun x8 =>
  optK (rdBin P H .sub 3 false (some t1) (some t5)) (fun x9 =>
  callQ (.call 7 [x8, x9] false none H nx) (fun x10 H nx =>
  optK (rdBin P H .add 3 false (some x5) (some x10)) (fun x11 =>
  optK (rdBin P H .add 3 true (some t6) (some (.int .i64 1))) (fun x12 =>
  .jump (l4_9 t0 t1 x11 x12 H nx)) .bad) .bad) panK) .bad) .bad) .bad) .bad) .bad)
 (.ret ⟨.ret t5, false, H, nx⟩)) .bad) .bad) (.ret ⟨.ret t5, false, H, nx⟩)) .bad) .bad) .bad := by kernel_rfl
/-! kindling/anf.Right -/
noncomputable def l6_7 (t0 : Value) (t6 : Value) (t7 : Value) (t8 : Value) (H : T OB) (nx : Nat) : Cfg := .at ⟨6, 46, false, [], none, false⟩ (tmOf [(0, t0), (6, t6), (7, t7), (8, t8)]) (todoOf P 6 7) H nx
noncomputable def l6_14 (t0 : Value) (t6 : Value) (t7 : Value) (t8 : Value) (t41 : Bool) (H : T OB) (nx : Nat) : Cfg := .at ⟨6, 46, false, [], none, false⟩ (tmOf [(0, t0), (6, t6), (7, t7), (8, t8), (41, .bool t41)]) (todoOf P 6 14) H nx
theorem q6 (a0 : Value) (H : T OB) (nx : Nat) : evT P pl (.call 6 [a0] false none H nx) =
  frzV P 22 a0 H nx (fun x0 H nx =>
  optK (rdLen P #[22] 3 (some [x0])) (fun x1 =>
  .jump (l6_7 x0 x0 x1 (.int .i64 0) H nx)) .bad) := by kernel_rfl
theorem q6_7 (t0 : Value) (t6 : Value) (t7 : Value) (t8 : Value) (H : T OB) (nx : Nat) : evT P pl (l6_7 t0 t6 t7 t8 H nx) =
  optK (rdBin P H .lss 3 false (some t8) (some t7)) (fun x0 =>
  bvK x0 (fun b1 => bK b1
 (optK (rdIndexAddr P 22 (some t6) (some t8)) (fun x2 =>
  optK (rdLoad P H 33 (some x2)) (fun x3 =>
  effQ (efAlloc P H nx 33) (fun x4 H nx =>
  frSt P H nx 33 (some x4) x3 (fun H nx =>
  optK (rdLoad P H 33 (some (eptrV x3))) (fun x5 =>
  optK (rdBuild P 58 (some [(0, t0), (1, x5), (2, t8)])) (fun x6 =>
  natF (Nat.succ nx) (fun nx =>
  optK (rdFieldAddr P 33 (some (eptrV x3)) 0) (fun x7 =>
  optK (rdLoad P H 3 (some x7)) (fun x8 =>
  optK (rdBin P H .lss 3 true (some x8) (some (.int .i64 0))) (fun x9 =>
  bvK x9 (fun b10 => bK b10 (.jump (l6_14 t0 t6 t7 t8 true H nx)) (optK (rdFieldAddr P 33 (some (eptrV x3)) 1) (fun x11 =>
  optK (rdLoad P H 3 (some x11)) (fun x12 =>
  optK (rdBin P H .lss 3 true (some x12) (some (.int .i64 0))) (fun x13 =>
  bvK x13 (fun b14 => bK b14 (.jump (l6_14 t0 t6 t7 t8 true H nx)) (optK (rdBin P H .eql 3 true (some t8) (some (.int .i64 0))) (fun x15 =>
  bvK x15 (fun b16 => bK b16 (optK (rdFieldAddr P 33 (some (eptrV x3)) 0) (fun x17 =>
  optK (rdLoad P H 3 (some x17)) (fun x18 =>
  optK (rdBin P H .gtr 3 true (some x18) (some (.int .i64 0))) (fun x19 =>
  bvK x19 (fun b20 => bK b20 (.jump (l6_14 t0 t6 t7 t8 true H nx)) (optK (rdFieldAddr P 33 (some (eptrV x3)) 2) (fun x21 =>
  optK (rdLoad P H 31 (some x21)) (fun x22 =>
  callQ (.call 16 [(eptrV x6), x22, (.pointer none), (.bool true)] false none H nx) (fun x23 H nx =>
  bvK x23 (fun b24 => optK (unV P .not (some (.bool b24))) (fun x25 =>
  bvK x25 (fun b26 => .jump (l6_14 t0 t6 t7 t8 b26 H nx)) .bad) .bad) .bad) panK) .bad) .bad)) .bad) .bad) .bad) .bad) (optK (rdFieldAddr P 33 (some (eptrV x3)) 2) (fun x27 =>
  optK (rdLoad P H 31 (some x27)) (fun x28 =>
  callQ (.call 16 [(eptrV x6), x28, (.pointer none), (.bool true)] false none H nx) (fun x29 H nx =>
  bvK x29 (fun b30 => optK (unV P .not (some (.bool b30))) (fun x31 =>
  bvK x31 (fun b32 => .jump (l6_14 t0 t6 t7 t8 b32 H nx)) .bad) .bad) .bad) panK) .bad) .bad)) .bad) .bad)) .bad) .bad) .bad) .bad)) .bad) .bad) .bad) .bad)) .bad) .bad))) .bad) .bad)
 (optK (rdLen P #[22] 3 (some [t0])) (fun x33 =>
  optK (rdBin P H .gtr 3 true (some x33) (some (.int .i64 0))) (fun x34 =>
  bvK x34 (fun b35 => .ret ⟨.ret (.bool b35), false, H, nx⟩) .bad) .bad) .bad)) .bad) .bad := by kernel_rfl
theorem q6_14 (t0 : Value) (t6 : Value) (t7 : Value) (t8 : Value) (t41 : Bool) (H : T OB) (nx : Nat) : evT P pl (l6_14 t0 t6 t7 t8 t41 H nx) =
  bK t41
 (.ret ⟨.ret (.bool false), false, H, nx⟩)
 (optK (rdBin P H .add 3 true (some t8) (some (.int .i64 1))) (fun x0 =>
  .jump (l6_7 t0 t6 t7 x0 H nx)) .bad) := by kernel_rfl
/-! kindling/kindlingref11.blockSize -/
noncomputable def l7_9 (t1 : Value) (t2 : Value) (t5 : Value) (t6 : Value) (H : T OB) (nx : Nat) : Cfg := .at ⟨7, 90, false, [], none, false⟩ (tmOf [(1, t1), (2, t2), (5, t5), (6, t6)]) (todoOf P 7 9) H nx
noncomputable def l7_17 (t1 : Value) (t2 : Value) (t5 : Value) (t6 : Value) (t7 : Value) (H : T OB) (nx : Nat) : Cfg := .at ⟨7, 90, false, [], none, false⟩ (tmOf [(1, t1), (2, t2), (5, t5), (6, t6), (7, t7)]) (todoOf P 7 17) H nx
noncomputable def l7_25 (t1 : Value) (t2 : Value) (t5 : Value) (t8 : Value) (H : T OB) (nx : Nat) : Cfg := .at ⟨7, 90, false, [], none, false⟩ (tmOf [(1, t1), (2, t2), (5, t5), (8, t8)]) (todoOf P 7 25) H nx
theorem q7 (a0 : Value) (a1 : Value) (H : T OB) (nx : Nat) : evT P pl (.call 7 [a0, a1] false none H nx) =
  natF (Nat.succ nx) (fun nx =>
  optK (rdFieldAddr P 31 (some (eptrV a0)) 2) (fun x0 =>
  optK (rdLoad P H 27 (some x0)) (fun x1 =>
  callQ (.call 17 [x1] false none H nx) (fun x2 H nx =>
  optK (rdBin P H .add 3 true (some (.int .i64 1)) (some x2)) (fun x3 =>
  .jump (l7_9 a1 (eptrV a0) x3 (.int .i64 0) H nx)) .bad) panK) .bad) .bad) := by kernel_rfl
theorem q7_9 (t1 : Value) (t2 : Value) (t5 : Value) (t6 : Value) (H : T OB) (nx : Nat) : evT P pl (l7_9 t1 t2 t5 t6 H nx) =
  optK (rdFieldAddr P 31 (some t2) 0) (fun x0 =>
  optK (rdLoad P H 28 (some x0)) (fun x1 =>
  optK (rdLen P #[28] 3 (some [x1])) (fun x2 =>
  optK (rdBin P H .lss 3 false (some t6) (some x2)) (fun x3 =>
  bvK x3 (fun b4 => bK b4 (optK (rdBin P H .leq 3 false (some t5) (some t1)) (fun x5 =>
  bvK x5 (fun b6 => bK b6
 (optK (rdBin P H .add 3 true (some t5) (some (.int .i64 1))) (fun x7 =>
  optK (rdFieldAddr P 31 (some t2) 0) (fun x8 =>
  optK (rdLoad P H 28 (some x8)) (fun x9 =>
  optK (rdIndexAddr P 28 (some x9) (some t6)) (fun x10 =>
  optK (rdFieldAddr P 62 (some x10) 3) (fun x11 =>
  optK (rdLoad P H 27 (some x11)) (fun x12 =>
  callQ (.call 17 [x12] false none H nx) (fun x13 H nx =>
  optK (rdBin P H .add 3 false (some x7) (some x13)) (fun x14 =>
  .jump (l7_17 t1 t2 x14 t6 (.int .i64 0) H nx)) .bad) panK) .bad) .bad) .bad) .bad) .bad) .bad)
 (.jump (l7_25 t1 t2 t5 (.int .i64 0) H nx))) .bad) .bad) (.jump (l7_25 t1 t2 t5 (.int .i64 0) H nx))) .bad) .bad) .bad) .bad) .bad := by kernel_rfl
theorem q7_17 (t1 : Value) (t2 : Value) (t5 : Value) (t6 : Value) (t7 : Value) (H : T OB) (nx : Nat) : evT P pl (l7_17 t1 t2 t5 t6 t7 H nx) =
  optK (rdFieldAddr P 31 (some t2) 0) (fun x0 =>
  optK (rdLoad P H 28 (some x0)) (fun x1 =>
  optK (rdIndexAddr P 28 (some x1) (some t6)) (fun x2 =>
  optK (rdFieldAddr P 62 (some x2) 4) (fun x3 =>
  optK (rdLoad P H 29 (some x3)) (fun x4 =>
  optK (rdLen P #[29] 3 (some [x4])) (fun x5 =>
  optK (rdBin P H .lss 3 false (some t7) (some x5)) (fun x6 =>
  bvK x6 (fun b7 => bK b7 (optK (rdBin P H .leq 3 false (some t5) (some t1)) (fun x8 =>
  bvK x8 (fun b9 => bK b9
 (optK (rdFieldAddr P 31 (some t2) 0) (fun x10 =>
  optK (rdLoad P H 28 (some x10)) (fun x11 =>
  optK (rdIndexAddr P 28 (some x11) (some t6)) (fun x12 =>
  optK (rdFieldAddr P 62 (some x12) 4) (fun x13 =>
  optK (rdLoad P H 29 (some x13)) (fun x14 =>
  optK (rdIndexAddr P 29 (some x14) (some t7)) (fun x15 =>
  optK (rdLoad P H 31 (some x15)) (fun x16 =>
  optK (rdBin P H .sub 3 false (some t1) (some t5)) (fun x17 =>
  callQ (.call 7 [x16, x17] false none H nx) (fun x18 H nx =>
  optK (rdBin P H .add 3 false (some t5) (some x18)) (fun x19 =>
  optK (rdBin P H .add 3 true (some t7) (some (.int .i64 1))) (fun x20 =>
  .jump (l7_17 t1 t2 x19 t6 x20 H nx)) .bad) .bad) panK) .bad) .bad) .bad) .bad) .bad) .bad) .bad) .bad)
 (optK (rdBin P H .add 3 true (some t6) (some (.int .i64 1))) (fun x21 =>
  .jump (l7_9 t1 t2 t5 x21 H nx)) .bad)) .bad) .bad) (optK (rdBin P H .add 3 true (some t6) (some (.int .i64 1))) (fun x22 =>
  .jump (l7_9 t1 t2 t5 x22 H nx)) .bad)) .bad) .bad) .bad) .bad) .bad) .bad) .bad) .bad := by kernel_rfl
theorem q7_25 (t1 : Value) (t2 : Value) (t5 : Value) (t8 : Value) (H : T OB) (nx : Nat) : evT P pl (l7_25 t1 t2 t5 t8 H nx) =
  optK (rdFieldAddr P 31 (some t2) 3) (fun x0 =>
  optK (rdLoad P H 29 (some x0)) (fun x1 =>
  optK (rdLen P #[29] 3 (some [x1])) (fun x2 =>
  optK (rdBin P H .lss 3 false (some t8) (some x2)) (fun x3 =>
  bvK x3 (fun b4 => bK b4 (optK (rdBin P H .leq 3 false (some t5) (some t1)) (fun x5 =>
  bvK x5 (fun b6 => bK b6
 (optK (rdFieldAddr P 31 (some t2) 3) (fun x7 =>
  optK (rdLoad P H 29 (some x7)) (fun x8 =>
  optK (rdIndexAddr P 29 (some x8) (some t8)) (fun x9 =>
  optK (rdLoad P H 31 (some x9)) (fun x10 =>
  optK (rdBin P H .sub 3 false (some t1) (some t5)) (fun x11 =>
  callQ (.call 7 [x10, x11] false none H nx) (fun x12 H nx =>
  optK (rdBin P H .add 3 false (some t5) (some x12)) (fun x13 =>
  optK (rdBin P H .add 3 true (some t8) (some (.int .i64 1))) (fun x14 =>
  .jump (l7_25 t1 t2 x13 x14 H nx)) .bad) .bad) panK) .bad) .bad) .bad) .bad) .bad)
 (.ret ⟨.ret t5, false, H, nx⟩)) .bad) .bad) (.ret ⟨.ret t5, false, H, nx⟩)) .bad) .bad) .bad) .bad) .bad := by kernel_rfl
/-! (*kindling/anf.reader).block -/
noncomputable def l16_7 (t0 : Value) (t2 : Value) (t3 : Bool) (t5 : Value) (t17 : Value) (t18 : Value) (t19 : Value) (H : T OB) (nx : Nat) : Cfg := .at ⟨16, 138, false, [], none, false⟩ (tmOf [(0, t0), (2, t2), (3, .bool t3), (5, t5), (17, t17), (18, t18), (19, t19)]) (todoOf P 16 7) H nx
noncomputable def l16_12 (t0 : Value) (t2 : Value) (t3 : Bool) (t5 : Value) (t10 : Value) (t17 : Value) (t18 : Value) (t19 : Value) (t34 : Bool) (H : T OB) (nx : Nat) : Cfg := .at ⟨16, 138, false, [], none, false⟩ (tmOf [(0, t0), (2, t2), (3, .bool t3), (5, t5), (10, t10), (17, t17), (18, t18), (19, t19), (34, .bool t34)]) (todoOf P 16 12) H nx
noncomputable def l16_45 (t0 : Value) (t2 : Value) (t3 : Bool) (t5 : Value) (t83 : Value) (t84 : Value) (t85 : Value) (H : T OB) (nx : Nat) : Cfg := .at ⟨16, 138, false, [], none, false⟩ (tmOf [(0, t0), (2, t2), (3, .bool t3), (5, t5), (83, t83), (84, t84), (85, t85)]) (todoOf P 16 45) H nx
noncomputable def l16_17 (t0 : Value) (t2 : Value) (t3 : Bool) (t5 : Value) (t10 : Value) (t17 : Value) (t18 : Value) (t19 : Value) (t36 : Value) (t37 : Value) (t38 : Value) (H : T OB) (nx : Nat) : Cfg := .at ⟨16, 138, false, [], none, false⟩ (tmOf [(0, t0), (2, t2), (3, .bool t3), (5, t5), (10, t10), (17, t17), (18, t18), (19, t19), (36, t36), (37, t37), (38, t38)]) (todoOf P 16 17) H nx
noncomputable def l16_60 (t3 : Bool) (t5 : Value) (t97 : Value) (t98 : Bool) (H : T OB) (nx : Nat) : Cfg := .at ⟨16, 138, false, [], none, false⟩ (tmOf [(3, .bool t3), (5, t5), (97, t97), (98, .bool t98)]) (todoOf P 16 60) H nx
noncomputable def l16_24 (t0 : Value) (t2 : Value) (t3 : Bool) (t5 : Value) (t10 : Value) (t12 : Value) (t13 : Value) (t17 : Value) (t18 : Value) (t19 : Value) (t36 : Value) (t37 : Value) (t38 : Value) (t50 : Bool) (H : T OB) (nx : Nat) : Cfg := .at ⟨16, 138, false, [], none, false⟩ (tmOf [(0, t0), (2, t2), (3, .bool t3), (5, t5), (10, t10), (12, t12), (13, t13), (17, t17), (18, t18), (19, t19), (36, t36), (37, t37), (38, t38), (50, .bool t50)]) (todoOf P 16 24) H nx
noncomputable def l16_34 (t0 : Value) (t2 : Value) (t3 : Bool) (t5 : Value) (t10 : Value) (t17 : Value) (t18 : Value) (t19 : Value) (t69 : Bool) (H : T OB) (nx : Nat) : Cfg := .at ⟨16, 138, false, [], none, false⟩ (tmOf [(0, t0), (2, t2), (3, .bool t3), (5, t5), (10, t10), (17, t17), (18, t18), (19, t19), (69, .bool t69)]) (todoOf P 16 34) H nx
theorem q16 (a0 : Value) (a1 : Value) (a2 : Value) (a3 : Bool) (H : T OB) (nx : Nat) : evT P pl (.call 16 [a0, a1, a2, .bool a3] false none H nx) =
  natF (Nat.succ nx) (fun nx =>
  optK (rdFieldAddr P 31 (some (eptrV a1)) 0) (fun x0 =>
  optK (rdLoad P H 28 (some x0)) (fun x1 =>
  optK (rdLen P #[28] 3 (some [x1])) (fun x2 =>
  .jump (l16_7 a0 a2 a3 (eptrV a1) x1 x2 (.int .i64 0) H nx)) .bad) .bad) .bad) := by kernel_rfl
theorem q16_7 (t0 : Value) (t2 : Value) (t3 : Bool) (t5 : Value) (t17 : Value) (t18 : Value) (t19 : Value) (H : T OB) (nx : Nat) : evT P pl (l16_7 t0 t2 t3 t5 t17 t18 t19 H nx) =
  optK (rdBin P H .lss 3 false (some t19) (some t18)) (fun x0 =>
  bvK x0 (fun b1 => bK b1
 (optK (rdIndexAddr P 28 (some t17) (some t19)) (fun x2 =>
  optK (rdLoad P H 62 (some x2)) (fun x3 =>
  effQ (efAlloc P H nx 62) (fun x4 H nx =>
  frSt P H nx 62 (some x4) x3 (fun H nx =>
  optK (rdLoad P H 62 (some (eptrV x3))) (fun x5 =>
  callQ (.call 28 [t0, x5] false none H nx) (fun x6 H nx =>
  bvK x6 (fun b7 => optK (unV P .not (some (.bool b7))) (fun x8 =>
  bvK x8 (fun b9 => bK b9 (.jump (l16_12 t0 t2 t3 t5 (eptrV x3) t17 t18 t19 true H nx)) (optK (rdFieldAddr P 62 (some (eptrV x3)) 3) (fun x10 =>
  optK (rdLoad P H 27 (some x10)) (fun x11 =>
  callQ (.call 29 [t0, x11, t2] false none H nx) (fun x12 H nx =>
  bvK x12 (fun b13 => optK (unV P .not (some (.bool b13))) (fun x14 =>
  bvK x14 (fun b15 => .jump (l16_12 t0 t2 t3 t5 (eptrV x3) t17 t18 t19 b15 H nx)) .bad) .bad) .bad) panK) .bad) .bad)) .bad) .bad) .bad) panK) .bad))) .bad) .bad)
 (optK (rdFieldAddr P 31 (some t5) 2) (fun x16 =>
  optK (rdLoad P H 27 (some x16)) (fun x17 =>
  callQ (.call 29 [t0, x17, t2] false none H nx) (fun x18 H nx =>
  bvK x18 (fun b19 => optK (unV P .not (some (.bool b19))) (fun x20 =>
  bvK x20 (fun b21 => bK b21
 (.ret ⟨.ret (.bool false), false, H, nx⟩)
 (optK (rdFieldAddr P 31 (some t5) 3) (fun x22 =>
  optK (rdLoad P H 29 (some x22)) (fun x23 =>
  optK (rdLen P #[29] 3 (some [x23])) (fun x24 =>
  .jump (l16_45 t0 t2 t3 t5 x23 x24 (.int .i64 0) H nx)) .bad) .bad) .bad)) .bad) .bad) .bad) panK) .bad) .bad)) .bad) .bad := by kernel_rfl
theorem q16_12 (t0 : Value) (t2 : Value) (t3 : Bool) (t5 : Value) (t10 : Value) (t17 : Value) (t18 : Value) (t19 : Value) (t34 : Bool) (H : T OB) (nx : Nat) : evT P pl (l16_12 t0 t2 t3 t5 t10 t17 t18 t19 t34 H nx) =
  bK t34
 (.ret ⟨.ret (.bool false), false, H, nx⟩)
 (optK (rdFieldAddr P 62 (some t10) 4) (fun x0 =>
  optK (rdLoad P H 29 (some x0)) (fun x1 =>
  optK (rdLen P #[29] 3 (some [x1])) (fun x2 =>
  .jump (l16_17 t0 t2 t3 t5 t10 t17 t18 t19 x1 x2 (.int .i64 0) H nx)) .bad) .bad) .bad) := by kernel_rfl
theorem q16_45 (t0 : Value) (t2 : Value) (t3 : Bool) (t5 : Value) (t83 : Value) (t84 : Value) (t85 : Value) (H : T OB) (nx : Nat) : evT P pl (l16_45 t0 t2 t3 t5 t83 t84 t85 H nx) =
  optK (rdBin P H .lss 3 false (some t85) (some t84)) (fun x0 =>
  bvK x0 (fun b1 => bK b1
 (optK (rdIndexAddr P 29 (some t83) (some t85)) (fun x2 =>
  optK (rdLoad P H 31 (some x2)) (fun x3 =>
  effQ (efAlloc P H nx 31) (fun x4 H nx =>
  frSt P H nx 31 (some x4) x3 (fun H nx =>
  optK (rdLoad P H 31 (some (eptrV x3))) (fun x5 =>
  callQ (.call 16 [t0, x5, t2, (.bool t3)] false none H nx) (fun x6 H nx =>
  bvK x6 (fun b7 => optK (unV P .not (some (.bool b7))) (fun x8 =>
  bvK x8 (fun b9 => bK b9
 (.ret ⟨.ret (.bool false), false, H, nx⟩)
 (optK (rdBin P H .add 3 true (some t85) (some (.int .i64 1))) (fun x10 =>
  .jump (l16_45 t0 t2 t3 t5 t83 t84 x10 H nx)) .bad)) .bad) .bad) .bad) panK) .bad))) .bad) .bad)
 (optK (rdFieldAddr P 31 (some t5) 1) (fun x11 =>
  optK (rdLoad P H 3 (some x11)) (fun x12 =>
  optK (rdBin P H .eql 3 true (some x12) (some (.int .i64 1))) (fun x13 =>
  bvK x13 (fun b14 => bK b14
 (.jump (l16_60 t3 t5 x12 b14 H nx))
 (optK (rdBin P H .eql 3 true (some x12) (some (.int .i64 3))) (fun x15 =>
  bvK x15 (fun b16 => .jump (l16_60 t3 t5 x12 b16 H nx)) .bad) .bad)) .bad) .bad) .bad) .bad)) .bad) .bad := by kernel_rfl
theorem q16_17 (t0 : Value) (t2 : Value) (t3 : Bool) (t5 : Value) (t10 : Value) (t17 : Value) (t18 : Value) (t19 : Value) (t36 : Value) (t37 : Value) (t38 : Value) (H : T OB) (nx : Nat) : evT P pl (l16_17 t0 t2 t3 t5 t10 t17 t18 t19 t36 t37 t38 H nx) =
  optK (rdBin P H .lss 3 false (some t38) (some t37)) (fun x0 =>
  bvK x0 (fun b1 => bK b1
 (optK (rdIndexAddr P 29 (some t36) (some t38)) (fun x2 =>
  optK (rdLoad P H 31 (some x2)) (fun x3 =>
  effQ (efAlloc P H nx 31) (fun x4 H nx =>
  frSt P H nx 31 (some x4) x3 (fun H nx =>
  optK (rdBin P H .eql 3 true (some t38) (some (.int .i64 1))) (fun x5 =>
  bvK x5 (fun b6 => bK b6 (optK (rdFieldAddr P 62 (some t10) 0) (fun x7 =>
  optK (rdLoad P H 3 (some x7)) (fun x8 =>
  optK (rdBin P H .eql 3 true (some x8) (some (.int .i64 10))) (fun x9 =>
  bvK x9 (fun b10 => .jump (l16_24 t0 t2 t3 t5 t10 (eptrV x3) t2 t17 t18 t19 t36 t37 t38 b10 H nx)) .bad) .bad) .bad) .bad) (.jump (l16_24 t0 t2 t3 t5 t10 (eptrV x3) t2 t17 t18 t19 t36 t37 t38 false H nx))) .bad) .bad))) .bad) .bad)
 (optK (rdFieldAddr P 62 (some t10) 0) (fun x11 =>
  optK (rdLoad P H 3 (some x11)) (fun x12 =>
  optK (rdBin P H .neq 3 true (some x12) (some (.int .i64 5))) (fun x13 =>
  bvK x13 (fun b14 => bK b14 (optK (rdFieldAddr P 62 (some t10) 0) (fun x15 =>
  optK (rdLoad P H 3 (some x15)) (fun x16 =>
  optK (rdBin P H .neq 3 true (some x16) (some (.int .i64 8))) (fun x17 =>
  bvK x17 (fun b18 => .jump (l16_34 t0 t2 t3 t5 t10 t17 t18 t19 b18 H nx)) .bad) .bad) .bad) .bad) (.jump (l16_34 t0 t2 t3 t5 t10 t17 t18 t19 false H nx))) .bad) .bad) .bad) .bad)) .bad) .bad := by kernel_rfl
theorem q16_60 (t3 : Bool) (t5 : Value) (t97 : Value) (t98 : Bool) (H : T OB) (nx : Nat) : evT P pl (l16_60 t3 t5 t97 t98 H nx) =
  bK t98
 (optK (rdFieldAddr P 31 (some t5) 2) (fun x0 =>
  optK (rdLoad P H 27 (some x0)) (fun x1 =>
  optK (rdLen P #[27] 3 (some [x1])) (fun x2 =>
  optK (rdBin P H .eql 3 true (some x2) (some (.int .i64 1))) (fun x3 =>
  bvK x3 (fun b4 => bK b4 (optK (rdFieldAddr P 31 (some t5) 3) (fun x5 =>
  optK (rdLoad P H 29 (some x5)) (fun x6 =>
  optK (rdLen P #[29] 3 (some [x6])) (fun x7 =>
  optK (rdBin P H .eql 3 true (some x7) (some (.int .i64 0))) (fun x8 =>
  bvK x8 (fun b9 => .ret ⟨.ret (.bool b9), false, H, nx⟩) .bad) .bad) .bad) .bad) .bad) (.ret ⟨.ret (.bool false), false, H, nx⟩)) .bad) .bad) .bad) .bad) .bad)
 (optK (rdBin P H .eql 3 true (some t97) (some (.int .i64 2))) (fun x10 =>
  bvK x10 (fun b11 => bK b11
 (bK t3 (optK (rdFieldAddr P 31 (some t5) 2) (fun x12 =>
  optK (rdLoad P H 27 (some x12)) (fun x13 =>
  optK (rdLen P #[27] 3 (some [x13])) (fun x14 =>
  optK (rdBin P H .eql 3 true (some x14) (some (.int .i64 2))) (fun x15 =>
  bvK x15 (fun b16 => bK b16 (optK (rdFieldAddr P 31 (some t5) 3) (fun x17 =>
  optK (rdLoad P H 29 (some x17)) (fun x18 =>
  optK (rdLen P #[29] 3 (some [x18])) (fun x19 =>
  optK (rdBin P H .eql 3 true (some x19) (some (.int .i64 0))) (fun x20 =>
  bvK x20 (fun b21 => .ret ⟨.ret (.bool b21), false, H, nx⟩) .bad) .bad) .bad) .bad) .bad) (.ret ⟨.ret (.bool false), false, H, nx⟩)) .bad) .bad) .bad) .bad) .bad) (.ret ⟨.ret (.bool false), false, H, nx⟩))
 (optK (rdBin P H .eql 3 true (some t97) (some (.int .i64 4))) (fun x22 =>
  bvK x22 (fun b23 => bK b23
 (optK (rdFieldAddr P 31 (some t5) 2) (fun x24 =>
  optK (rdLoad P H 27 (some x24)) (fun x25 =>
  optK (rdLen P #[27] 3 (some [x25])) (fun x26 =>
  optK (rdBin P H .eql 3 true (some x26) (some (.int .i64 1))) (fun x27 =>
  bvK x27 (fun b28 => bK b28 (optK (rdFieldAddr P 31 (some t5) 3) (fun x29 =>
  optK (rdLoad P H 29 (some x29)) (fun x30 =>
  optK (rdLen P #[29] 3 (some [x30])) (fun x31 =>
  optK (rdBin P H .eql 3 true (some x31) (some (.int .i64 2))) (fun x32 =>
  bvK x32 (fun b33 => .ret ⟨.ret (.bool b33), false, H, nx⟩) .bad) .bad) .bad) .bad) .bad) (.ret ⟨.ret (.bool false), false, H, nx⟩)) .bad) .bad) .bad) .bad) .bad)
 (.ret ⟨.ret (.bool false), false, H, nx⟩)) .bad) .bad)) .bad) .bad) := by kernel_rfl
theorem q16_24 (t0 : Value) (t2 : Value) (t3 : Bool) (t5 : Value) (t10 : Value) (t12 : Value) (t13 : Value) (t17 : Value) (t18 : Value) (t19 : Value) (t36 : Value) (t37 : Value) (t38 : Value) (t50 : Bool) (H : T OB) (nx : Nat) : evT P pl (l16_24 t0 t2 t3 t5 t10 t12 t13 t17 t18 t19 t36 t37 t38 t50 H nx) =
  bK t50
 (optK (rdFieldAddr P 62 (some t10) 2) (fun x0 =>
  optK (rdLoad P H 3 (some x0)) (fun x1 =>
  optK (rdBuild P 101 (some [(0, x1), (1, t2)])) (fun x2 =>
  natF (Nat.succ nx) (fun nx =>
  optK (rdLoad P H 31 (some t12)) (fun x3 =>
  callQ (.call 16 [t0, x3, (eptrV x2), (.bool false)] false none H nx) (fun x4 H nx =>
  bvK x4 (fun b5 => optK (unV P .not (some (.bool b5))) (fun x6 =>
  bvK x6 (fun b7 => bK b7
 (.ret ⟨.ret (.bool false), false, H, nx⟩)
 (optK (rdBin P H .add 3 true (some t38) (some (.int .i64 1))) (fun x8 =>
  .jump (l16_17 t0 t2 t3 t5 t10 t17 t18 t19 t36 t37 x8 H nx)) .bad)) .bad) .bad) .bad) panK) .bad)) .bad) .bad) .bad)
 (optK (rdLoad P H 31 (some t12)) (fun x9 =>
  callQ (.call 16 [t0, x9, t13, (.bool false)] false none H nx) (fun x10 H nx =>
  bvK x10 (fun b11 => optK (unV P .not (some (.bool b11))) (fun x12 =>
  bvK x12 (fun b13 => bK b13
 (.ret ⟨.ret (.bool false), false, H, nx⟩)
 (optK (rdBin P H .add 3 true (some t38) (some (.int .i64 1))) (fun x14 =>
  .jump (l16_17 t0 t2 t3 t5 t10 t17 t18 t19 t36 t37 x14 H nx)) .bad)) .bad) .bad) .bad) panK) .bad) := by kernel_rfl
theorem q16_34 (t0 : Value) (t2 : Value) (t3 : Bool) (t5 : Value) (t10 : Value) (t17 : Value) (t18 : Value) (t19 : Value) (t69 : Bool) (H : T OB) (nx : Nat) : evT P pl (l16_34 t0 t2 t3 t5 t10 t17 t18 t19 t69 H nx) =
  bK t69
 (optK (rdFieldAddr P 62 (some t10) 1) (fun x0 =>
  optK (rdLoad P H 3 (some x0)) (fun x1 =>
  optK (rdBuild P 101 (some [(0, x1), (1, t2)])) (fun x2 =>
  natF (Nat.succ nx) (fun nx =>
  optK (rdBin P H .add 3 true (some t19) (some (.int .i64 1))) (fun x3 =>
  .jump (l16_7 t0 (eptrV x2) t3 t5 t17 t18 x3 H nx)) .bad)) .bad) .bad) .bad)
 (optK (rdBin P H .add 3 true (some t19) (some (.int .i64 1))) (fun x4 =>
  .jump (l16_7 t0 t2 t3 t5 t17 t18 x4 H nx)) .bad) := by kernel_rfl
/-! kindling/kindlingref11.atomsSize -/
noncomputable def l17_9 (t0 : Value) (t3 : Value) (t4 : Value) (H : T OB) (nx : Nat) : Cfg := .at ⟨17, 27, false, [], none, false⟩ (tmOf [(0, t0), (3, t3), (4, t4)]) (todoOf P 17 9) H nx
theorem q17 (a0 : Value) (H : T OB) (nx : Nat) : evT P pl (.call 17 [a0] false none H nx) =
  optK (rdLen P #[27] 3 (some [a0])) (fun x0 =>
  .jump (l17_9 a0 x0 (.int .i64 0) H nx)) .bad := by kernel_rfl
theorem q17_9 (t0 : Value) (t3 : Value) (t4 : Value) (H : T OB) (nx : Nat) : evT P pl (l17_9 t0 t3 t4 H nx) =
  optK (rdLen P #[27] 3 (some [t0])) (fun x0 =>
  optK (rdBin P H .lss 3 false (some t4) (some x0)) (fun x1 =>
  bvK x1 (fun b2 => bK b2 (optK (rdBin P H .lss 3 true (some t3) (some (.int .i64 10000))) (fun x3 =>
  bvK x3 (fun b4 => bK b4
 (optK (rdIndexAddr P 27 (some t0) (some t4)) (fun x5 =>
  optK (rdFieldAddr P 26 (some x5) 3) (fun x6 =>
  optK (rdLoad P H 9 (some x6)) (fun x7 =>
  optK (rdLen P #[9] 3 (some [x7])) (fun x8 =>
  optK (rdBin P H .quo 3 true (some x8) (some (.int .i64 8))) (fun x9 =>
  optK (rdBin P H .add 3 false (some t3) (some x9)) (fun x10 =>
  optK (rdBin P H .add 3 true (some t4) (some (.int .i64 1))) (fun x11 =>
  .jump (l17_9 t0 x10 x11 H nx)) .bad) .bad) .bad) .bad) .bad) .bad) .bad)
 (.ret ⟨.ret t3, false, H, nx⟩)) .bad) .bad) (.ret ⟨.ret t3, false, H, nx⟩)) .bad) .bad) .bad := by kernel_rfl
end
end Go.Proofs.YtfdgoenmdalphaaDoor
