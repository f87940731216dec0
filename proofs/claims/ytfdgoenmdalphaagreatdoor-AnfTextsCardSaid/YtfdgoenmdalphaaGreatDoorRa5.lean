/- What functions of the program say, as trees. -/
import Derived.Test.YtfdgoenmdalphaaGreatDoorRa0
import Derived.KernelRfl
namespace Go.Proofs.YtfdgoenmdalphaaGreatDoor
open Go.Ev Go.RowKit
noncomputable section
set_option linter.unusedVariables false
set_option maxHeartbeats 8000000
/-! kindling/kindlingref01.Text -/
noncomputable def l86_9 (t0 : Value) (t3 : Value) (t4 : Value) (H : T OB) (nx : Nat) : Cfg := .at ⟨86, 33, false, [], none, false⟩ (tmOf [(0, t0), (3, t3), (4, t4)]) (todoOf P 86 9) H nx
noncomputable def l86_16 (t0 : Value) (t3 : Value) (t4 : Value) (t5 : Value) (H : T OB) (nx : Nat) : Cfg := .at ⟨86, 33, false, [], none, false⟩ (tmOf [(0, t0), (3, t3), (4, t4), (5, t5)]) (todoOf P 86 16) H nx
theorem q86 (a0 : Value) (H : T OB) (nx : Nat) : evT P pl (.call 86 [a0] false none H nx) =
  .jump (l86_9 a0 (.string ⟨⟨[]⟩⟩) a0 H nx) := by kernel_rfl
theorem q86_9 (t0 : Value) (t3 : Value) (t4 : Value) (H : T OB) (nx : Nat) : evT P pl (l86_9 t0 t3 t4 H nx) =
  optK (rdBin P H .neq 2 true (some t4) (some (.int .i64 0))) (fun x0 =>
  bvK x0 (fun b1 => bK b1 (optK (rdBin P H .rem 2 true (some t4) (some (.int .i64 10))) (fun x11 =>
  optK (rdBin P H .lss 2 true (some x11) (some (.int .i64 0))) (fun x12 =>
  bvK x12 (fun b13 => bK b13
 (optK (unV P .neg (some x11)) (fun x14 =>
  .jump (l86_16 t0 t3 t4 x14 H nx)) .bad)
 (.jump (l86_16 t0 t3 t4 x11 H nx))) .bad) .bad) .bad) (optK (rdBin P H .eql 9 true (some t3) (some (.string ⟨⟨[]⟩⟩))) (fun x2 =>
  bvK x2 (fun b3 => bK b3
 (optK (rdBin P H .rem 2 true (some t4) (some (.int .i64 10))) (fun x4 =>
  optK (rdBin P H .lss 2 true (some x4) (some (.int .i64 0))) (fun x5 =>
  bvK x5 (fun b6 => bK b6
 (optK (unV P .neg (some x4)) (fun x7 =>
  .jump (l86_16 t0 t3 t4 x7 H nx)) .bad)
 (.jump (l86_16 t0 t3 t4 x4 H nx))) .bad) .bad) .bad)
 (optK (rdBin P H .lss 2 true (some t0) (some (.int .i64 0))) (fun x8 =>
  bvK x8 (fun b9 => bK b9
 (optK (rdBin P H .add 9 true (some (.string ⟨⟨[45]⟩⟩)) (some t3)) (fun x10 =>
  .ret ⟨.ret x10, false, H, nx⟩) .bad)
 (.ret ⟨.ret t3, false, H, nx⟩)) .bad) .bad)) .bad) .bad)) .bad) .bad := by kernel_rfl
theorem q86_16 (t0 : Value) (t3 : Value) (t4 : Value) (t5 : Value) (H : T OB) (nx : Nat) : evT P pl (l86_16 t0 t3 t4 t5 H nx) =
  optK (rdBin P H .add 2 true (some (.int .i64 48)) (some t5)) (fun x0 =>
  optK (rdConv P H 2 5 (some x0)) (fun x1 =>
  effQ (efBuildSlice P H nx 100 1 (some [(0, x1)])) (fun x2 H nx =>
  optK (rdConv P H 100 9 (some x2)) (fun x3 =>
  optK (rdBin P H .add 9 false (some x3) (some t3)) (fun x4 =>
  optK (rdBin P H .quo 2 true (some t4) (some (.int .i64 10))) (fun x5 =>
  .jump (l86_9 t0 x4 x5 H nx)) .bad) .bad) .bad)) .bad) .bad := by kernel_rfl
/-! kindling/kindlingref11.stepText -/
theorem q87 (a0 : Value) (H : T OB) (nx : Nat) : evT P pl (.call 87 [a0] false none H nx) =
  natF (Nat.succ nx) (fun nx =>
  optK (rdFieldAddr P 125 (some (eptrV a0)) 1) (fun x0 =>
  optK (rdLoad P H 3 (some x0)) (fun x1 =>
  optK (rdFieldAddr P 125 (some (eptrV a0)) 2) (fun x2 =>
  optK (rdLoad P H 3 (some x2)) (fun x3 =>
  callQ (.call 51 [x1] false none H nx) (fun x4 H nx =>
  bK (optK (rdLoad P H 3 (some x2)) (fun u => vEq u x3) false && true) (optK (rdBin P H .add 9 true (some (.string ⟨⟨[32, 37]⟩⟩)) (some x4)) (fun x5 =>
  callQ (.call 51 [x3] false none H nx) (fun x6 H nx =>
  bK (optK (rdBin P H .add 9 true (some (.string ⟨⟨[32, 37]⟩⟩)) (some x4)) (fun u => vEq u x5) false && true) (optK (rdBin P H .add 9 true (some (.string ⟨⟨[32]⟩⟩)) (some x6)) (fun x7 =>
  optK (rdFieldAddr P 125 (some (eptrV a0)) 0) (fun x8 =>
  optK (rdLoad P H 3 (some x8)) (fun x9 =>
  optK (rdBin P H .eql 3 true (some x9) (some (.int .i64 1))) (fun x10 =>
  bvK x10 (fun b11 => bK b11
 (optK (rdBin P H .add 9 true (some (.string ⟨⟨[40, 109, 111, 118, 101]⟩⟩)) (some x5)) (fun x12 =>
  .ret ⟨.ret x12, false, H, nx⟩) .bad)
 (optK (rdBin P H .eql 3 true (some x9) (some (.int .i64 2))) (fun x13 =>
  bvK x13 (fun b14 => bK b14
 (optK (rdFieldAddr P 125 (some (eptrV a0)) 2) (fun x15 =>
  optK (rdLoad P H 3 (some x15)) (fun x16 =>
  callQ (.call 114 [x16] false none H nx) (fun x17 H nx =>
  optK (rdExtract (some x17) 0) (fun x18 =>
  optK (rdExtract (some x17) 1) (fun x19 =>
  bvK x19 (fun b20 => effQ (efAlloc P H nx 177) (fun x21 H nx =>
  frSt P H nx 177 (some x21) x18 (fun H nx =>
  optK (rdFieldAddr P 177 (some (eptrV x18)) 0) (fun x22 =>
  optK (rdLoad P H 9 (some x22)) (fun x23 =>
  optK (rdBin P H .add 9 true (some (.string ⟨⟨[40, 112, 114, 105, 109, 32]⟩⟩)) (some x23)) (fun x24 =>
  optK (rdBin P H .add 9 false (some x24) (some x5)) (fun x25 =>
  .ret ⟨.ret x25, false, H, nx⟩) .bad) .bad) .bad) .bad))) .bad) .bad) .bad) panK) .bad) .bad)
 (optK (rdBin P H .eql 3 true (some x9) (some (.int .i64 3))) (fun x26 =>
  bvK x26 (fun b27 => bK b27
 (optK (rdBin P H .add 9 true (some (.string ⟨⟨[40, 109, 97, 107, 101]⟩⟩)) (some x5)) (fun x28 =>
  .ret ⟨.ret x28, false, H, nx⟩) .bad)
 (optK (rdBin P H .eql 3 true (some x9) (some (.int .i64 4))) (fun x29 =>
  bvK x29 (fun b30 => bK b30
 (optK (rdBin P H .add 9 true (some (.string ⟨⟨[40, 99, 108, 111, 115, 101]⟩⟩)) (some x5)) (fun x31 =>
  optK (rdBin P H .add 9 false (some x31) (some x7)) (fun x32 =>
  .ret ⟨.ret x32, false, H, nx⟩) .bad) .bad)
 (optK (rdBin P H .eql 3 true (some x9) (some (.int .i64 5))) (fun x33 =>
  bvK x33 (fun b34 => bK b34
 (optK (rdBin P H .add 9 true (some (.string ⟨⟨[40, 102, 105, 108, 108]⟩⟩)) (some x7)) (fun x35 =>
  .ret ⟨.ret x35, false, H, nx⟩) .bad)
 (optK (rdBin P H .eql 3 true (some x9) (some (.int .i64 6))) (fun x36 =>
  bvK x36 (fun b37 => bK b37
 (optK (rdBin P H .add 9 true (some (.string ⟨⟨[40, 102, 105, 101, 108, 100]⟩⟩)) (some x5)) (fun x38 =>
  optK (rdBin P H .add 9 false (some x38) (some x7)) (fun x39 =>
  .ret ⟨.ret x39, false, H, nx⟩) .bad) .bad)
 (optK (rdBin P H .eql 3 true (some x9) (some (.int .i64 7))) (fun x40 =>
  bvK x40 (fun b41 => bK b41
 (optK (rdBin P H .add 9 true (some (.string ⟨⟨[40, 99, 97, 108, 108]⟩⟩)) (some x5)) (fun x42 =>
  .ret ⟨.ret x42, false, H, nx⟩) .bad)
 (optK (rdBin P H .eql 3 true (some x9) (some (.int .i64 8))) (fun x43 =>
  bvK x43 (fun b44 => bK b44
 (optK (rdFieldAddr P 125 (some (eptrV a0)) 2) (fun x45 =>
  optK (rdLoad P H 3 (some x45)) (fun x46 =>
  callQ (.call 51 [x46] false none H nx) (fun x47 H nx =>
  optK (rdBin P H .add 9 true (some (.string ⟨⟨[40, 112, 117, 116, 32, 36]⟩⟩)) (some x47)) (fun x48 =>
  .ret ⟨.ret x48, false, H, nx⟩) .bad) panK) .bad) .bad)
 (optK (rdBin P H .eql 3 true (some x9) (some (.int .i64 9))) (fun x49 =>
  bvK x49 (fun b50 => bK b50
 (optK (rdBin P H .add 9 true (some (.string ⟨⟨[40, 105, 102]⟩⟩)) (some x5)) (fun x51 =>
  .ret ⟨.ret x51, false, H, nx⟩) .bad)
 (optK (rdBin P H .add 9 true (some (.string ⟨⟨[40, 116, 114, 121]⟩⟩)) (some x5)) (fun x52 =>
  optK (rdBin P H .add 9 true (some x52) (some (.string ⟨⟨[32, 37]⟩⟩))) (fun x53 =>
  optK (rdFieldAddr P 125 (some (eptrV a0)) 2) (fun x54 =>
  optK (rdLoad P H 3 (some x54)) (fun x55 =>
  callQ (.call 51 [x55] false none H nx) (fun x56 H nx =>
  optK (rdBin P H .add 9 false (some x53) (some x56)) (fun x57 =>
  .ret ⟨.ret x57, false, H, nx⟩) .bad) panK) .bad) .bad) .bad) .bad)) .bad) .bad)) .bad) .bad)) .bad) .bad)) .bad) .bad)) .bad) .bad)) .bad) .bad)) .bad) .bad)) .bad) .bad)) .bad) .bad) .bad) .bad) .bad) .bad) panK) .bad) .bad) panK) .bad) .bad) .bad) .bad) := by kernel_rfl
/-! kindling/kindlingref11.rest -/
noncomputable def l88_9 (t0 : Value) (t1 : Value) (t5 : Value) (t6 : Value) (H : T OB) (nx : Nat) : Cfg := .at ⟨88, 38, false, [], none, false⟩ (tmOf [(0, t0), (1, t1), (5, t5), (6, t6)]) (todoOf P 88 9) H nx
noncomputable def l88_17 (t1 : Value) (t5 : Value) (t7 : Value) (H : T OB) (nx : Nat) : Cfg := .at ⟨88, 38, false, [], none, false⟩ (tmOf [(1, t1), (5, t5), (7, t7)]) (todoOf P 88 17) H nx
theorem q88 (a0 : Value) (a1 : Value) (H : T OB) (nx : Nat) : evT P pl (.call 88 [a0, a1] false none H nx) =
  .jump (l88_9 a0 a1 (.string ⟨⟨[]⟩⟩) (.int .i64 0) H nx) := by kernel_rfl
theorem q88_9 (t0 : Value) (t1 : Value) (t5 : Value) (t6 : Value) (H : T OB) (nx : Nat) : evT P pl (l88_9 t0 t1 t5 t6 H nx) =
  optK (rdLen P #[64] 3 (some [t0])) (fun x0 =>
  optK (rdBin P H .lss 3 false (some t6) (some x0)) (fun x1 =>
  bvK x1 (fun b2 => bK b2
 (optK (rdBin P H .add 9 true (some t5) (some (.string ⟨⟨[32]⟩⟩))) (fun x3 =>
  optK (rdIndexAddr P 64 (some t0) (some t6)) (fun x4 =>
  optK (rdLoad P H 71 (some x4)) (fun x5 =>
  callQ (.call 115 [x5] false none H nx) (fun x6 H nx =>
  optK (rdBin P H .add 9 false (some x3) (some x6)) (fun x7 =>
  optK (rdBin P H .add 3 true (some t6) (some (.int .i64 1))) (fun x8 =>
  .jump (l88_9 t0 t1 x7 x8 H nx)) .bad) .bad) panK) .bad) .bad) .bad)
 (.jump (l88_17 t1 t5 (.int .i64 0) H nx))) .bad) .bad) .bad := by kernel_rfl
theorem q88_17 (t1 : Value) (t5 : Value) (t7 : Value) (H : T OB) (nx : Nat) : evT P pl (l88_17 t1 t5 t7 H nx) =
  optK (rdLen P #[65] 3 (some [t1])) (fun x0 =>
  optK (rdBin P H .lss 3 false (some t7) (some x0)) (fun x1 =>
  bvK x1 (fun b2 => bK b2
 (optK (rdBin P H .add 9 true (some t5) (some (.string ⟨⟨[32]⟩⟩))) (fun x3 =>
  optK (rdIndexAddr P 65 (some t1) (some t7)) (fun x4 =>
  optK (rdLoad P H 67 (some x4)) (fun x5 =>
  callQ (.call 52 [x5] false none H nx) (fun x6 H nx =>
  optK (rdBin P H .add 9 false (some x3) (some x6)) (fun x7 =>
  optK (rdBin P H .add 3 true (some t7) (some (.int .i64 1))) (fun x8 =>
  .jump (l88_17 t1 x7 x8 H nx)) .bad) .bad) panK) .bad) .bad) .bad)
 (optK (rdBin P H .add 9 true (some t5) (some (.string ⟨⟨[41]⟩⟩))) (fun x9 =>
  .ret ⟨.ret x9, false, H, nx⟩) .bad)) .bad) .bad) .bad := by kernel_rfl
/-! kindling/kindlingref10.Takes -/
noncomputable def l90_10 (t0 : Value) (t3 : Bool) (H : T OB) (nx : Nat) : Cfg := .at ⟨90, 41, false, [], none, false⟩ (tmOf [(0, t0), (3, .bool t3)]) (todoOf P 90 10) H nx
theorem q90 (a0 : Value) (H : T OB) (nx : Nat) : evT P pl (.call 90 [a0] false none H nx) =
  optK (rdBin P H .eql 3 true (some a0) (some (.int .i64 21))) (fun x0 =>
  bvK x0 (fun b1 => bK b1
 (.ret ⟨.ret (.int .i64 2), false, H, nx⟩)
 (optK (rdBin P H .geq 3 true (some a0) (some (.int .i64 7))) (fun x2 =>
  bvK x2 (fun b3 => bK b3 (optK (rdBin P H .leq 3 true (some a0) (some (.int .i64 15))) (fun x4 =>
  bvK x4 (fun b5 => bK b5 (.jump (l90_10 a0 true H nx)) (optK (rdBin P H .eql 3 true (some a0) (some (.int .i64 18))) (fun x6 =>
  bvK x6 (fun b7 => bK b7 (.jump (l90_10 a0 true H nx)) (optK (rdBin P H .eql 3 true (some a0) (some (.int .i64 22))) (fun x8 =>
  bvK x8 (fun b9 => bK b9 (.jump (l90_10 a0 true H nx)) (optK (rdBin P H .geq 3 true (some a0) (some (.int .i64 32))) (fun x10 =>
  bvK x10 (fun b11 => bK b11 (optK (rdBin P H .leq 3 true (some a0) (some (.int .i64 36))) (fun x12 =>
  bvK x12 (fun b13 => .jump (l90_10 a0 b13 H nx)) .bad) .bad) (.jump (l90_10 a0 false H nx))) .bad) .bad)) .bad) .bad)) .bad) .bad)) .bad) .bad) (optK (rdBin P H .eql 3 true (some a0) (some (.int .i64 18))) (fun x14 =>
  bvK x14 (fun b15 => bK b15 (.jump (l90_10 a0 true H nx)) (optK (rdBin P H .eql 3 true (some a0) (some (.int .i64 22))) (fun x16 =>
  bvK x16 (fun b17 => bK b17 (.jump (l90_10 a0 true H nx)) (optK (rdBin P H .geq 3 true (some a0) (some (.int .i64 32))) (fun x18 =>
  bvK x18 (fun b19 => bK b19 (optK (rdBin P H .leq 3 true (some a0) (some (.int .i64 36))) (fun x20 =>
  bvK x20 (fun b21 => .jump (l90_10 a0 b21 H nx)) .bad) .bad) (.jump (l90_10 a0 false H nx))) .bad) .bad)) .bad) .bad)) .bad) .bad)) .bad) .bad)) .bad) .bad := by kernel_rfl
theorem q90_10 (t0 : Value) (t3 : Bool) (H : T OB) (nx : Nat) : evT P pl (l90_10 t0 t3 H nx) =
  optK (unV P .not (some (.bool t3))) (fun x0 =>
  bvK x0 (fun b1 => bK b1
 (.ret ⟨.ret (.int .i64 0), false, H, nx⟩)
 (callQ (.call 114 [t0] false none H nx) (fun x2 H nx =>
  optK (rdExtract (some x2) 0) (fun x3 =>
  optK (rdExtract (some x2) 1) (fun x4 =>
  bvK x4 (fun b5 => effQ (efAlloc P H nx 177) (fun x6 H nx =>
  frSt P H nx 177 (some x6) x3 (fun H nx =>
  optK (rdFieldAddr P 177 (some (eptrV x3)) 1) (fun x7 =>
  optK (rdLoad P H 9 (some x7)) (fun x8 =>
  optK (rdLen P #[9] 3 (some [x8])) (fun x9 =>
  optK (rdBin P H .sub 3 true (some x9) (some (.int .i64 1))) (fun x10 =>
  .ret ⟨.ret x10, false, H, nx⟩) .bad) .bad) .bad) .bad))) .bad) .bad) .bad) panK)) .bad) .bad := by kernel_rfl
/-! kindling/num.Fit -/
theorem q91 (a0 : Value) (H : T OB) (nx : Nat) : evT P pl (.call 91 [a0] false none H nx) =
  optK (rdBin P H .geq 2 true (some a0) (some (.int .i64 (-4611686018427387904)))) (fun x0 =>
  bvK x0 (fun b1 => bK b1 (optK (rdBin P H .leq 2 true (some a0) (some (.int .i64 4611686018427387903))) (fun x2 =>
  bvK x2 (fun b3 => .ret ⟨.ret (.bool b3), false, H, nx⟩) .bad) .bad) (.ret ⟨.ret (.bool false), false, H, nx⟩)) .bad) .bad := by kernel_rfl
/-! kindling/core.fixed -/
noncomputable def l92_6 (t1 : Value) (t27 : Bool) (H : T OB) (nx : Nat) : Cfg := .at ⟨92, 55, false, [], none, false⟩ (tmOf [(1, t1), (27, .bool t27)]) (todoOf P 92 6) H nx
noncomputable def l92_13 (t3 : Value) (t30 : Value) (t31 : Value) (t32 : Value) (H : T OB) (nx : Nat) : Cfg := .at ⟨92, 55, false, [], none, false⟩ (tmOf [(3, t3), (30, t30), (31, t31), (32, t32)]) (todoOf P 92 13) H nx
noncomputable def l92_18 (t3 : Value) (t4 : Value) (t5 : Value) (t30 : Value) (t31 : Value) (t32 : Value) (t48 : Bool) (H : T OB) (nx : Nat) : Cfg := .at ⟨92, 55, false, [], none, false⟩ (tmOf [(3, t3), (4, t4), (5, t5), (30, t30), (31, t31), (32, t32), (48, .bool t48)]) (todoOf P 92 18) H nx
theorem q92 (a0 : Value) (H : T OB) (nx : Nat) : evT P pl (.call 92 [a0] false none H nx) =
  natF (Nat.succ nx) (fun nx =>
  optK (rdFieldAddr P 25 (some (eptrV a0)) 4) (fun x0 =>
  optK (rdLoad P H 22 (some x0)) (fun x1 =>
  optK (rdLen P #[22] 3 (some [x1])) (fun x2 =>
  optK (rdBin P H .eql 3 true (some x2) (some (.int .i64 0))) (fun x3 =>
  bvK x3 (fun b4 => bK b4 (.jump (l92_6 (eptrV a0) true H nx)) (optK (rdFieldAddr P 25 (some (eptrV a0)) 4) (fun x5 =>
  optK (rdLoad P H 22 (some x5)) (fun x6 =>
  optK (rdLen P #[22] 3 (some [x6])) (fun x7 =>
  optK (rdBin P H .rem 3 true (some x7) (some (.int .i64 2))) (fun x8 =>
  optK (rdBin P H .neq 3 true (some x8) (some (.int .i64 0))) (fun x9 =>
  bvK x9 (fun b10 => bK b10 (.jump (l92_6 (eptrV a0) true H nx)) (optK (rdFieldAddr P 25 (some (eptrV a0)) 5) (fun x11 =>
  optK (rdLoad P H 23 (some x11)) (fun x12 =>
  optK (rdLen P #[23] 3 (some [x12])) (fun x13 =>
  optK (rdFieldAddr P 25 (some (eptrV a0)) 4) (fun x14 =>
  optK (rdLoad P H 22 (some x14)) (fun x15 =>
  optK (rdLen P #[22] 3 (some [x15])) (fun x16 =>
  optK (rdBin P H .quo 3 true (some x16) (some (.int .i64 2))) (fun x17 =>
  optK (rdBin P H .add 3 true (some x17) (some (.int .i64 1))) (fun x18 =>
  optK (rdBin P H .neq 3 false (some x13) (some x18)) (fun x19 =>
  bvK x19 (fun b20 => .jump (l92_6 (eptrV a0) b20 H nx)) .bad) .bad) .bad) .bad) .bad) .bad) .bad) .bad) .bad) .bad)) .bad) .bad) .bad) .bad) .bad) .bad)) .bad) .bad) .bad) .bad) .bad) := by kernel_rfl
theorem q92_6 (t1 : Value) (t27 : Bool) (H : T OB) (nx : Nat) : evT P pl (l92_6 t1 t27 H nx) =
  bK t27
 (.ret ⟨.ret (.bool false), false, H, nx⟩)
 (effQ (efMakeMap H nx) (fun x0 H nx =>
  optK (rdFieldAddr P 25 (some t1) 4) (fun x1 =>
  optK (rdLoad P H 22 (some x1)) (fun x2 =>
  optK (rdLen P #[22] 3 (some [x2])) (fun x3 =>
  .jump (l92_13 x0 x2 x3 (.int .i64 0) H nx)) .bad) .bad) .bad)) := by kernel_rfl
theorem q92_13 (t3 : Value) (t30 : Value) (t31 : Value) (t32 : Value) (H : T OB) (nx : Nat) : evT P pl (l92_13 t3 t30 t31 t32 H nx) =
  optK (rdBin P H .lss 3 false (some t32) (some t31)) (fun x0 =>
  bvK x0 (fun b1 => bK b1
 (optK (rdIndexAddr P 22 (some t30) (some t32)) (fun x2 =>
  optK (rdLoad P H 3 (some x2)) (fun x3 =>
  optK (rdBin P H .lss 3 true (some x3) (some (.int .i64 0))) (fun x4 =>
  bvK x4 (fun b5 => bK b5 (.jump (l92_18 t3 t32 x3 t30 t31 t32 true H nx)) (optK (rdBin P H .rem 3 true (some t32) (some (.int .i64 2))) (fun x6 =>
  optK (rdBin P H .eql 3 true (some x6) (some (.int .i64 0))) (fun x7 =>
  bvK x7 (fun b8 => bK b8 (optK (rdLookup P H 109 (some t3) (some x3) false) (fun x9 =>
  bvK x9 (fun b10 => .jump (l92_18 t3 t32 x3 t30 t31 t32 b10 H nx)) .bad) .bad) (.jump (l92_18 t3 t32 x3 t30 t31 t32 false H nx))) .bad) .bad) .bad)) .bad) .bad) .bad) .bad)
 (.ret ⟨.ret (.bool true), false, H, nx⟩)) .bad) .bad := by kernel_rfl
theorem q92_18 (t3 : Value) (t4 : Value) (t5 : Value) (t30 : Value) (t31 : Value) (t32 : Value) (t48 : Bool) (H : T OB) (nx : Nat) : evT P pl (l92_18 t3 t4 t5 t30 t31 t32 t48 H nx) =
  bK t48
 (.ret ⟨.ret (.bool false), false, H, nx⟩)
 (optK (rdBin P H .rem 3 true (some t4) (some (.int .i64 2))) (fun x0 =>
  optK (rdBin P H .eql 3 true (some x0) (some (.int .i64 0))) (fun x1 =>
  bvK x1 (fun b2 => bK b2
 (effQ (efMapUpdate P H nx 109 (some t3) (some t5) (some (.bool true))) (fun x3 H nx =>
  optK (rdBin P H .add 3 true (some t32) (some (.int .i64 1))) (fun x4 =>
  .jump (l92_13 t3 t30 t31 x4 H nx)) .bad))
 (optK (rdBin P H .add 3 true (some t32) (some (.int .i64 1))) (fun x5 =>
  .jump (l92_13 t3 t30 t31 x5 H nx)) .bad)) .bad) .bad) .bad) := by kernel_rfl
/-! kindling/core.args -/
noncomputable def l93_18 (t3 : Value) (t4 : Bool) (H : T OB) (nx : Nat) : Cfg := .at ⟨93, 23, false, [], none, false⟩ (tmOf [(3, t3), (4, .bool t4)]) (todoOf P 93 18) H nx
noncomputable def l93_42 (t11 : Bool) (H : T OB) (nx : Nat) : Cfg := .at ⟨93, 23, false, [], none, false⟩ (tmOf [(11, .bool t11)]) (todoOf P 93 42) H nx
theorem q93 (a0 : Value) (H : T OB) (nx : Nat) : evT P pl (.call 93 [a0] false none H nx) =
  optK (rdBin P H .eql 3 true (some a0) (some (.int .i64 18))) (fun x0 =>
  bvK x0 (fun b1 => bK b1
 (.jump (l93_18 a0 b1 H nx))
 (optK (rdBin P H .eql 3 true (some a0) (some (.int .i64 12))) (fun x2 =>
  bvK x2 (fun b3 => bK b3
 (.jump (l93_18 a0 b3 H nx))
 (optK (rdBin P H .eql 3 true (some a0) (some (.int .i64 22))) (fun x4 =>
  bvK x4 (fun b5 => bK b5
 (.jump (l93_18 a0 b5 H nx))
 (optK (rdBin P H .eql 3 true (some a0) (some (.int .i64 33))) (fun x6 =>
  bvK x6 (fun b7 => bK b7
 (.jump (l93_18 a0 b7 H nx))
 (optK (rdBin P H .eql 3 true (some a0) (some (.int .i64 34))) (fun x8 =>
  bvK x8 (fun b9 => bK b9
 (.jump (l93_18 a0 b9 H nx))
 (optK (rdBin P H .eql 3 true (some a0) (some (.int .i64 36))) (fun x10 =>
  bvK x10 (fun b11 => .jump (l93_18 a0 b11 H nx)) .bad) .bad)) .bad) .bad)) .bad) .bad)) .bad) .bad)) .bad) .bad)) .bad) .bad := by kernel_rfl
theorem q93_18 (t3 : Value) (t4 : Bool) (H : T OB) (nx : Nat) : evT P pl (l93_18 t3 t4 H nx) =
  bK t4
 (.ret ⟨.ret (.int .i64 1), false, H, nx⟩)
 (optK (rdBin P H .eql 3 true (some t3) (some (.int .i64 7))) (fun x0 =>
  bvK x0 (fun b1 => bK b1
 (.jump (l93_42 b1 H nx))
 (optK (rdBin P H .eql 3 true (some t3) (some (.int .i64 8))) (fun x2 =>
  bvK x2 (fun b3 => bK b3
 (.jump (l93_42 b3 H nx))
 (optK (rdBin P H .eql 3 true (some t3) (some (.int .i64 9))) (fun x4 =>
  bvK x4 (fun b5 => bK b5
 (.jump (l93_42 b5 H nx))
 (optK (rdBin P H .eql 3 true (some t3) (some (.int .i64 10))) (fun x6 =>
  bvK x6 (fun b7 => bK b7
 (.jump (l93_42 b7 H nx))
 (optK (rdBin P H .eql 3 true (some t3) (some (.int .i64 11))) (fun x8 =>
  bvK x8 (fun b9 => bK b9
 (.jump (l93_42 b9 H nx))
 (optK (rdBin P H .eql 3 true (some t3) (some (.int .i64 13))) (fun x10 =>
  bvK x10 (fun b11 => bK b11
 (.jump (l93_42 b11 H nx))
 (optK (rdBin P H .eql 3 true (some t3) (some (.int .i64 14))) (fun x12 =>
  bvK x12 (fun b13 => bK b13
 (.jump (l93_42 b13 H nx))
 (optK (rdBin P H .eql 3 true (some t3) (some (.int .i64 15))) (fun x14 =>
  bvK x14 (fun b15 => bK b15
 (.jump (l93_42 b15 H nx))
 (optK (rdBin P H .eql 3 true (some t3) (some (.int .i64 21))) (fun x16 =>
  bvK x16 (fun b17 => bK b17
 (.jump (l93_42 b17 H nx))
 (optK (rdBin P H .eql 3 true (some t3) (some (.int .i64 32))) (fun x18 =>
  bvK x18 (fun b19 => bK b19
 (.jump (l93_42 b19 H nx))
 (optK (rdBin P H .eql 3 true (some t3) (some (.int .i64 35))) (fun x20 =>
  bvK x20 (fun b21 => .jump (l93_42 b21 H nx)) .bad) .bad)) .bad) .bad)) .bad) .bad)) .bad) .bad)) .bad) .bad)) .bad) .bad)) .bad) .bad)) .bad) .bad)) .bad) .bad)) .bad) .bad)) .bad) .bad) := by kernel_rfl
theorem q93_42 (t11 : Bool) (H : T OB) (nx : Nat) : evT P pl (l93_42 t11 H nx) =
  bK t11
 (.ret ⟨.ret (.int .i64 2), false, H, nx⟩)
 (.ret ⟨.ret (.int .i64 0), false, H, nx⟩) := by kernel_rfl
/-! kindling/kindlingref11.needs -/
noncomputable def l99_12 (t0 : Value) (t3 : Value) (t8 : Value) (t9 : Bool) (H : T OB) (nx : Nat) : Cfg := .at ⟨99, 55, false, [], none, false⟩ (tmOf [(0, t0), (3, t3), (8, t8), (9, .bool t9)]) (todoOf P 99 12) H nx
noncomputable def l99_36 (t0 : Value) (t3 : Value) (t41 : Bool) (H : T OB) (nx : Nat) : Cfg := .at ⟨99, 55, false, [], none, false⟩ (tmOf [(0, t0), (3, t3), (41, .bool t41)]) (todoOf P 99 36) H nx
noncomputable def l99_44 (t8 : Value) (t48 : Bool) (H : T OB) (nx : Nat) : Cfg := .at ⟨99, 55, false, [], none, false⟩ (tmOf [(8, t8), (48, .bool t48)]) (todoOf P 99 44) H nx
theorem q99 (a0 : Value) (a1 : Value) (H : T OB) (nx : Nat) : evT P pl (.call 99 [a0, a1] false none H nx) =
  natF (Nat.succ nx) (fun nx =>
  optK (rdFieldAddr P 125 (some (eptrV a1)) 0) (fun x0 =>
  optK (rdLoad P H 3 (some x0)) (fun x1 =>
  optK (rdBin P H .eql 3 true (some x1) (some (.int .i64 1))) (fun x2 =>
  bvK x2 (fun b3 => bK b3
 (.jump (l99_12 a0 (eptrV a1) x1 b3 H nx))
 (optK (rdBin P H .eql 3 true (some x1) (some (.int .i64 6))) (fun x4 =>
  bvK x4 (fun b5 => bK b5
 (.jump (l99_12 a0 (eptrV a1) x1 b5 H nx))
 (optK (rdBin P H .eql 3 true (some x1) (some (.int .i64 8))) (fun x6 =>
  bvK x6 (fun b7 => .jump (l99_12 a0 (eptrV a1) x1 b7 H nx)) .bad) .bad)) .bad) .bad)) .bad) .bad) .bad) .bad) := by kernel_rfl
theorem q99_12 (t0 : Value) (t3 : Value) (t8 : Value) (t9 : Bool) (H : T OB) (nx : Nat) : evT P pl (l99_12 t0 t3 t8 t9 H nx) =
  bK t9
 (.ret ⟨.ret (.tuple ⟨[(.int .i64 1), (.int .i64 0)]⟩), false, H, nx⟩)
 (optK (rdBin P H .eql 3 true (some t8) (some (.int .i64 2))) (fun x0 =>
  bvK x0 (fun b1 => bK b1
 (optK (rdFieldAddr P 125 (some t3) 2) (fun x2 =>
  optK (rdLoad P H 3 (some x2)) (fun x3 =>
  callQ (.call 90 [x3] false none H nx) (fun x4 H nx =>
  optK (rdBin P H .eql 3 true (some x4) (some (.int .i64 0))) (fun x5 =>
  bvK x5 (fun b6 => bK b6
 (.ret ⟨.ret (.tuple ⟨[(.int .i64 (-1)), (.int .i64 0)]⟩), false, H, nx⟩)
 (.ret ⟨.ret (.tuple ⟨[x4, (.int .i64 0)]⟩), false, H, nx⟩)) .bad) .bad) panK) .bad) .bad)
 (optK (rdBin P H .eql 3 true (some t8) (some (.int .i64 3))) (fun x7 =>
  bvK x7 (fun b8 => bK b8
 (optK (rdFieldAddr P 125 (some t3) 3) (fun x9 =>
  optK (rdLoad P H 64 (some x9)) (fun x10 =>
  optK (rdLen P #[64] 3 (some [x10])) (fun x11 =>
  optK (rdBin P H .eql 3 true (some x11) (some (.int .i64 0))) (fun x12 =>
  bvK x12 (fun b13 => bK b13
 (.ret ⟨.ret (.tuple ⟨[(.int .i64 (-1)), (.int .i64 0)]⟩), false, H, nx⟩)
 (optK (rdFieldAddr P 125 (some t3) 3) (fun x14 =>
  optK (rdLoad P H 64 (some x14)) (fun x15 =>
  optK (rdLen P #[64] 3 (some [x15])) (fun x16 =>
  .ret ⟨.ret (.tuple ⟨[x16, (.int .i64 0)]⟩), false, H, nx⟩) .bad) .bad) .bad)) .bad) .bad) .bad) .bad) .bad)
 (optK (rdBin P H .eql 3 true (some t8) (some (.int .i64 4))) (fun x17 =>
  bvK x17 (fun b18 => bK b18
 (optK (rdFieldAddr P 125 (some t3) 2) (fun x19 =>
  optK (rdLoad P H 3 (some x19)) (fun x20 =>
  optK (rdBin P H .lss 3 true (some x20) (some (.int .i64 0))) (fun x21 =>
  bvK x21 (fun b22 => bK b22 (.jump (l99_36 t0 t3 true H nx)) (optK (rdFieldAddr P 125 (some t3) 2) (fun x23 =>
  optK (rdLoad P H 3 (some x23)) (fun x24 =>
  optK (rdLen P #[30] 3 (some [t0])) (fun x25 =>
  optK (rdBin P H .geq 3 false (some x24) (some x25)) (fun x26 =>
  bvK x26 (fun b27 => .jump (l99_36 t0 t3 b27 H nx)) .bad) .bad) .bad) .bad) .bad)) .bad) .bad) .bad) .bad)
 (optK (rdBin P H .eql 3 true (some t8) (some (.int .i64 5))) (fun x28 =>
  bvK x28 (fun b29 => bK b29
 (.jump (l99_44 t8 b29 H nx))
 (optK (rdBin P H .eql 3 true (some t8) (some (.int .i64 7))) (fun x30 =>
  bvK x30 (fun b31 => .jump (l99_44 t8 b31 H nx)) .bad) .bad)) .bad) .bad)) .bad) .bad)) .bad) .bad)) .bad) .bad) := by kernel_rfl
theorem q99_36 (t0 : Value) (t3 : Value) (t41 : Bool) (H : T OB) (nx : Nat) : evT P pl (l99_36 t0 t3 t41 H nx) =
  bK t41
 (.ret ⟨.ret (.tuple ⟨[(.int .i64 (-1)), (.int .i64 0)]⟩), false, H, nx⟩)
 (optK (rdFieldAddr P 125 (some t3) 2) (fun x0 =>
  optK (rdLoad P H 3 (some x0)) (fun x1 =>
  optK (rdIndexAddr P 30 (some t0) (some x1)) (fun x2 =>
  optK (rdFieldAddr P 69 (some x2) 0) (fun x3 =>
  optK (rdLoad P H 3 (some x3)) (fun x4 =>
  .ret ⟨.ret (.tuple ⟨[x4, (.int .i64 0)]⟩), false, H, nx⟩) .bad) .bad) .bad) .bad) .bad) := by kernel_rfl
theorem q99_44 (t8 : Value) (t48 : Bool) (H : T OB) (nx : Nat) : evT P pl (l99_44 t8 t48 H nx) =
  bK t48
 (.ret ⟨.ret (.tuple ⟨[(.int .i64 2), (.int .i64 0)]⟩), false, H, nx⟩)
 (optK (rdBin P H .eql 3 true (some t8) (some (.int .i64 9))) (fun x0 =>
  bvK x0 (fun b1 => bK b1
 (.ret ⟨.ret (.tuple ⟨[(.int .i64 1), (.int .i64 2)]⟩), false, H, nx⟩)
 (optK (rdBin P H .eql 3 true (some t8) (some (.int .i64 10))) (fun x2 =>
  bvK x2 (fun b3 => bK b3
 (.ret ⟨.ret (.tuple ⟨[(.int .i64 0), (.int .i64 2)]⟩), false, H, nx⟩)
 (.ret ⟨.ret (.tuple ⟨[(.int .i64 (-1)), (.int .i64 0)]⟩), false, H, nx⟩)) .bad) .bad)) .bad) .bad) := by kernel_rfl
end
end Go.Proofs.YtfdgoenmdalphaaGreatDoor
