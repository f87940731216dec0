/- What functions of the program say, as trees. -/
import Derived.Test.YtfdgoenmdalphaaGreatDoorRa0
import Derived.KernelRfl
namespace Go.Proofs.YtfdgoenmdalphaaGreatDoor
open Go.Ev Go.RowKit
noncomputable section
set_option linter.unusedVariables false
set_option maxHeartbeats 8000000
/-! (*kindling/anf.reader).shape -/
noncomputable def l78_8 (t0 : Value) (t3 : Value) (t5 : Value) (t6 : Value) (t7 : Bool) (t8 : Bool) (H : T OB) (nx : Nat) : Cfg := .at ⟨78, 137, false, [], none, false⟩ (tmOf [(0, t0), (3, t3), (5, t5), (6, t6), (7, .bool t7), (8, .bool t8)]) (todoOf P 78 8) H nx
noncomputable def l78_54 (t3 : Value) (t5 : Value) (t6 : Value) (t7 : Bool) (t8 : Bool) (H : T OB) (nx : Nat) : Cfg := .at ⟨78, 137, false, [], none, false⟩ (tmOf [(3, t3), (5, t5), (6, t6), (7, .bool t7), (8, .bool t8)]) (todoOf P 78 54) H nx
noncomputable def l78_26 (t0 : Value) (t3 : Value) (t5 : Value) (t6 : Value) (t7 : Bool) (t8 : Bool) (H : T OB) (nx : Nat) : Cfg := .at ⟨78, 137, false, [], none, false⟩ (tmOf [(0, t0), (3, t3), (5, t5), (6, t6), (7, .bool t7), (8, .bool t8)]) (todoOf P 78 26) H nx
theorem q78 (a0 : Value) (a1 : Value) (H : T OB) (nx : Nat) : evT P pl (.call 78 [a0, a1] false none H nx) =
  natF (Nat.succ nx) (fun nx =>
  optK (rdFieldAddr P 125 (some (eptrV a1)) 2) (fun x0 =>
  optK (rdLoad P H 3 (some x0)) (fun x1 =>
  optK (rdBin P H .eql 3 true (some x1) (some (.int .i64 0))) (fun x2 =>
  bvK x2 (fun b3 => optK (rdFieldAddr P 125 (some (eptrV a1)) 1) (fun x4 =>
  optK (rdLoad P H 3 (some x4)) (fun x5 =>
  optK (rdBin P H .geq 3 true (some x5) (some (.int .i64 0))) (fun x6 =>
  bvK x6 (fun b7 => bK b7 (optK (rdFieldAddr P 125 (some (eptrV a1)) 1) (fun x8 =>
  optK (rdLoad P H 3 (some x8)) (fun x9 =>
  optK (rdNil (some a0)) (fun x10 =>
  optK (rdFieldAddr P 95 (some x10) 1) (fun x11 =>
  optK (rdFieldAddr P 69 (some x11) 1) (fun x12 =>
  optK (rdLoad P H 3 (some x12)) (fun x13 =>
  optK (rdBin P H .lss 3 false (some x9) (some x13)) (fun x14 =>
  bvK x14 (fun b15 => .jump (l78_8 a0 (eptrV a1) (.int .i64 1) (.int .i64 0) b3 b15 H nx)) .bad) .bad) .bad) .bad) .bad) .bad) .bad) .bad) (.jump (l78_8 a0 (eptrV a1) (.int .i64 1) (.int .i64 0) b3 false H nx))) .bad) .bad) .bad) .bad) .bad) .bad) .bad) .bad) := by kernel_rfl
theorem q78_8 (t0 : Value) (t3 : Value) (t5 : Value) (t6 : Value) (t7 : Bool) (t8 : Bool) (H : T OB) (nx : Nat) : evT P pl (l78_8 t0 t3 t5 t6 t7 t8 H nx) =
  optK (rdFieldAddr P 125 (some t3) 0) (fun x0 =>
  optK (rdLoad P H 3 (some x0)) (fun x1 =>
  optK (rdBin P H .eql 3 true (some x1) (some (.int .i64 1))) (fun x2 =>
  bvK x2 (fun b3 => bK b3
 (.jump (l78_54 t3 t5 t6 t7 t8 H nx))
 (optK (rdBin P H .eql 3 true (some x1) (some (.int .i64 2))) (fun x4 =>
  bvK x4 (fun b5 => bK b5
 (optK (rdFieldAddr P 125 (some t3) 2) (fun x6 =>
  optK (rdLoad P H 3 (some x6)) (fun x7 =>
  optK (rdFieldAddr P 125 (some t3) 2) (fun x8 =>
  optK (rdLoad P H 3 (some x8)) (fun x9 =>
  callQ (.call 110 [x7] false none H nx) (fun x10 H nx =>
  bK (optK (rdLoad P H 3 (some x8)) (fun u => vEq u x9) false && true) (callQ (.call 110 [x9] false none H nx) (fun x11 H nx =>
  optK (rdBin P H .gtr 3 true (some x11) (some (.int .i64 0))) (fun x12 =>
  bvK x12 (fun b13 => .jump (l78_54 t3 x10 t6 b13 t8 H nx)) .bad) .bad) panK) .bad) panK) .bad) .bad) .bad) .bad)
 (optK (rdBin P H .eql 3 true (some x1) (some (.int .i64 3))) (fun x14 =>
  bvK x14 (fun b15 => bK b15
 (optK (rdFieldAddr P 125 (some t3) 3) (fun x16 =>
  optK (rdLoad P H 64 (some x16)) (fun x17 =>
  optK (rdLen P #[64] 3 (some [x17])) (fun x18 =>
  optK (bltV P .max #[3, 3] 3 (some [(.int .i64 1), x18])) (fun x19 =>
  .jump (l78_54 t3 x19 t6 t7 t8 H nx)) .bad) .bad) .bad) .bad)
 (optK (rdBin P H .eql 3 true (some x1) (some (.int .i64 4))) (fun x20 =>
  bvK x20 (fun b21 => bK b21
 (optK (rdFieldAddr P 125 (some t3) 2) (fun x22 =>
  optK (rdLoad P H 3 (some x22)) (fun x23 =>
  optK (rdBin P H .geq 3 true (some x23) (some (.int .i64 0))) (fun x24 =>
  bvK x24 (fun b25 => bK b25 (optK (rdFieldAddr P 125 (some t3) 2) (fun x26 =>
  optK (rdLoad P H 3 (some x26)) (fun x27 =>
  optK (rdNil (some t0)) (fun x28 =>
  optK (rdFieldAddr P 95 (some x28) 0) (fun x29 =>
  optK (rdLoad P H 30 (some x29)) (fun x30 =>
  optK (rdLen P #[30] 3 (some [x30])) (fun x31 =>
  optK (rdBin P H .lss 3 false (some x27) (some x31)) (fun x32 =>
  bvK x32 (fun b33 => .jump (l78_26 t0 t3 t5 t6 b33 t8 H nx)) .bad) .bad) .bad) .bad) .bad) .bad) .bad) .bad) (.jump (l78_26 t0 t3 t5 t6 false t8 H nx))) .bad) .bad) .bad) .bad)
 (optK (rdBin P H .eql 3 true (some x1) (some (.int .i64 5))) (fun x34 =>
  bvK x34 (fun b35 => bK b35
 (optK (rdFieldAddr P 125 (some t3) 2) (fun x36 =>
  optK (rdLoad P H 3 (some x36)) (fun x37 =>
  optK (rdBin P H .geq 3 true (some x37) (some (.int .i64 0))) (fun x38 =>
  bvK x38 (fun b39 => optK (rdFieldAddr P 125 (some t3) 1) (fun x40 =>
  optK (rdLoad P H 3 (some x40)) (fun x41 =>
  optK (rdBin P H .eql 3 true (some x41) (some (.int .i64 0))) (fun x42 =>
  bvK x42 (fun b43 => .jump (l78_54 t3 (.int .i64 2) t6 b39 b43 H nx)) .bad) .bad) .bad) .bad) .bad) .bad) .bad) .bad)
 (optK (rdBin P H .eql 3 true (some x1) (some (.int .i64 6))) (fun x44 =>
  bvK x44 (fun b45 => bK b45
 (optK (rdFieldAddr P 125 (some t3) 2) (fun x46 =>
  optK (rdLoad P H 3 (some x46)) (fun x47 =>
  optK (rdBin P H .geq 3 true (some x47) (some (.int .i64 0))) (fun x48 =>
  bvK x48 (fun b49 => bK b49 (optK (rdFieldAddr P 125 (some t3) 2) (fun x50 =>
  optK (rdLoad P H 3 (some x50)) (fun x51 =>
  optK (rdBin P H .lss 3 true (some x51) (some (.int .i64 16384))) (fun x52 =>
  bvK x52 (fun b53 => .jump (l78_54 t3 t5 t6 b53 t8 H nx)) .bad) .bad) .bad) .bad) (.jump (l78_54 t3 t5 t6 false t8 H nx))) .bad) .bad) .bad) .bad)
 (optK (rdBin P H .eql 3 true (some x1) (some (.int .i64 7))) (fun x54 =>
  bvK x54 (fun b55 => bK b55
 (.jump (l78_54 t3 (.int .i64 2) t6 t7 t8 H nx))
 (optK (rdBin P H .eql 3 true (some x1) (some (.int .i64 8))) (fun x56 =>
  bvK x56 (fun b57 => bK b57
 (optK (rdFieldAddr P 125 (some t3) 2) (fun x58 =>
  optK (rdLoad P H 3 (some x58)) (fun x59 =>
  optK (rdBin P H .geq 3 true (some x59) (some (.int .i64 0))) (fun x60 =>
  bvK x60 (fun b61 => bK b61 (optK (rdFieldAddr P 125 (some t3) 2) (fun x62 =>
  optK (rdLoad P H 3 (some x62)) (fun x63 =>
  optK (rdBin P H .lss 3 true (some x63) (some (.int .i64 1024))) (fun x64 =>
  bvK x64 (fun b65 => optK (rdFieldAddr P 125 (some t3) 1) (fun x66 =>
  optK (rdLoad P H 3 (some x66)) (fun x67 =>
  optK (rdBin P H .eql 3 true (some x67) (some (.int .i64 0))) (fun x68 =>
  bvK x68 (fun b69 => .jump (l78_54 t3 t5 t6 b65 b69 H nx)) .bad) .bad) .bad) .bad) .bad) .bad) .bad) .bad) (optK (rdFieldAddr P 125 (some t3) 1) (fun x70 =>
  optK (rdLoad P H 3 (some x70)) (fun x71 =>
  optK (rdBin P H .eql 3 true (some x71) (some (.int .i64 0))) (fun x72 =>
  bvK x72 (fun b73 => .jump (l78_54 t3 t5 t6 false b73 H nx)) .bad) .bad) .bad) .bad)) .bad) .bad) .bad) .bad)
 (optK (rdBin P H .eql 3 true (some x1) (some (.int .i64 9))) (fun x74 =>
  bvK x74 (fun b75 => bK b75
 (.jump (l78_54 t3 t5 (.int .i64 2) t7 t8 H nx))
 (optK (rdBin P H .eql 3 true (some x1) (some (.int .i64 10))) (fun x76 =>
  bvK x76 (fun b77 => bK b77
 (optK (rdFieldAddr P 125 (some t3) 2) (fun x78 =>
  optK (rdLoad P H 3 (some x78)) (fun x79 =>
  optK (rdBin P H .geq 3 true (some x79) (some (.int .i64 0))) (fun x80 =>
  bvK x80 (fun b81 => bK b81 (optK (rdFieldAddr P 125 (some t3) 2) (fun x82 =>
  optK (rdLoad P H 3 (some x82)) (fun x83 =>
  optK (rdNil (some t0)) (fun x84 =>
  optK (rdFieldAddr P 95 (some x84) 1) (fun x85 =>
  optK (rdFieldAddr P 69 (some x85) 1) (fun x86 =>
  optK (rdLoad P H 3 (some x86)) (fun x87 =>
  optK (rdBin P H .lss 3 false (some x83) (some x87)) (fun x88 =>
  bvK x88 (fun b89 => .jump (l78_54 t3 (.int .i64 0) (.int .i64 2) b89 t8 H nx)) .bad) .bad) .bad) .bad) .bad) .bad) .bad) .bad) (.jump (l78_54 t3 (.int .i64 0) (.int .i64 2) false t8 H nx))) .bad) .bad) .bad) .bad)
 (.ret ⟨.ret (.bool false), false, H, nx⟩)) .bad) .bad)) .bad) .bad)) .bad) .bad)) .bad) .bad)) .bad) .bad)) .bad) .bad)) .bad) .bad)) .bad) .bad)) .bad) .bad)) .bad) .bad) .bad) .bad := by kernel_rfl
theorem q78_54 (t3 : Value) (t5 : Value) (t6 : Value) (t7 : Bool) (t8 : Bool) (H : T OB) (nx : Nat) : evT P pl (l78_54 t3 t5 t6 t7 t8 H nx) =
  bK t7 (bK t8 (optK (rdFieldAddr P 125 (some t3) 3) (fun x0 =>
  optK (rdLoad P H 64 (some x0)) (fun x1 =>
  optK (rdLen P #[64] 3 (some [x1])) (fun x2 =>
  optK (rdBin P H .eql 3 false (some x2) (some t5)) (fun x3 =>
  bvK x3 (fun b4 => bK b4 (optK (rdFieldAddr P 125 (some t3) 4) (fun x5 =>
  optK (rdLoad P H 65 (some x5)) (fun x6 =>
  optK (rdLen P #[65] 3 (some [x6])) (fun x7 =>
  optK (rdBin P H .eql 3 false (some x7) (some t6)) (fun x8 =>
  bvK x8 (fun b9 => .ret ⟨.ret (.bool b9), false, H, nx⟩) .bad) .bad) .bad) .bad) .bad) (.ret ⟨.ret (.bool false), false, H, nx⟩)) .bad) .bad) .bad) .bad) .bad) (.ret ⟨.ret (.bool false), false, H, nx⟩)) (.ret ⟨.ret (.bool false), false, H, nx⟩) := by kernel_rfl
theorem q78_26 (t0 : Value) (t3 : Value) (t5 : Value) (t6 : Value) (t7 : Bool) (t8 : Bool) (H : T OB) (nx : Nat) : evT P pl (l78_26 t0 t3 t5 t6 t7 t8 H nx) =
  bK t7
 (optK (rdNil (some t0)) (fun x0 =>
  optK (rdFieldAddr P 95 (some x0) 0) (fun x1 =>
  optK (rdLoad P H 30 (some x1)) (fun x2 =>
  optK (rdFieldAddr P 125 (some t3) 2) (fun x3 =>
  optK (rdLoad P H 3 (some x3)) (fun x4 =>
  optK (rdIndexAddr P 30 (some x2) (some x4)) (fun x5 =>
  optK (rdFieldAddr P 69 (some x5) 0) (fun x6 =>
  optK (rdLoad P H 3 (some x6)) (fun x7 =>
  bK t7 (bK t8 (optK (rdFieldAddr P 125 (some t3) 3) (fun x8 =>
  optK (rdLoad P H 64 (some x8)) (fun x9 =>
  optK (rdLen P #[64] 3 (some [x9])) (fun x10 =>
  optK (rdBin P H .eql 3 false (some x10) (some x7)) (fun x11 =>
  bvK x11 (fun b12 => bK b12 (optK (rdFieldAddr P 125 (some t3) 4) (fun x13 =>
  optK (rdLoad P H 65 (some x13)) (fun x14 =>
  optK (rdLen P #[65] 3 (some [x14])) (fun x15 =>
  optK (rdBin P H .eql 3 false (some x15) (some t6)) (fun x16 =>
  bvK x16 (fun b17 => .ret ⟨.ret (.bool b17), false, H, nx⟩) .bad) .bad) .bad) .bad) .bad) (.ret ⟨.ret (.bool false), false, H, nx⟩)) .bad) .bad) .bad) .bad) .bad) (.ret ⟨.ret (.bool false), false, H, nx⟩)) (.ret ⟨.ret (.bool false), false, H, nx⟩)) .bad) .bad) .bad) .bad) .bad) .bad) .bad) .bad)
 (bK t7 (bK t8 (optK (rdFieldAddr P 125 (some t3) 3) (fun x18 =>
  optK (rdLoad P H 64 (some x18)) (fun x19 =>
  optK (rdLen P #[64] 3 (some [x19])) (fun x20 =>
  optK (rdBin P H .eql 3 false (some x20) (some t5)) (fun x21 =>
  bvK x21 (fun b22 => bK b22 (optK (rdFieldAddr P 125 (some t3) 4) (fun x23 =>
  optK (rdLoad P H 65 (some x23)) (fun x24 =>
  optK (rdLen P #[65] 3 (some [x24])) (fun x25 =>
  optK (rdBin P H .eql 3 false (some x25) (some t6)) (fun x26 =>
  bvK x26 (fun b27 => .ret ⟨.ret (.bool b27), false, H, nx⟩) .bad) .bad) .bad) .bad) .bad) (.ret ⟨.ret (.bool false), false, H, nx⟩)) .bad) .bad) .bad) .bad) .bad) (.ret ⟨.ret (.bool false), false, H, nx⟩)) (.ret ⟨.ret (.bool false), false, H, nx⟩)) := by kernel_rfl
/-! (*kindling/anf.reader).atoms -/
noncomputable def l79_7 (t0 : Value) (t2 : Value) (t9 : Value) (t10 : Value) (t11 : Value) (H : T OB) (nx : Nat) : Cfg := .at ⟨79, 21, false, [], none, false⟩ (tmOf [(0, t0), (2, t2), (9, t9), (10, t10), (11, t11)]) (todoOf P 79 7) H nx
theorem q79 (a0 : Value) (a1 : Value) (a2 : Value) (H : T OB) (nx : Nat) : evT P pl (.call 79 [a0, a1, a2] false none H nx) =
  optK (rdLen P #[64] 3 (some [a1])) (fun x0 =>
  .jump (l79_7 a0 a2 a1 x0 (.int .i64 0) H nx)) .bad := by kernel_rfl
theorem q79_7 (t0 : Value) (t2 : Value) (t9 : Value) (t10 : Value) (t11 : Value) (H : T OB) (nx : Nat) : evT P pl (l79_7 t0 t2 t9 t10 t11 H nx) =
  optK (rdBin P H .lss 3 false (some t11) (some t10)) (fun x0 =>
  bvK x0 (fun b1 => bK b1
 (optK (rdIndexAddr P 64 (some t9) (some t11)) (fun x2 =>
  optK (rdLoad P H 71 (some x2)) (fun x3 =>
  effQ (efAlloc P H nx 71) (fun x4 H nx =>
  frSt P H nx 71 (some x4) x3 (fun H nx =>
  optK (rdLoad P H 71 (some (eptrV x3))) (fun x5 =>
  callQ (.call 111 [t0, x5, t2] false none H nx) (fun x6 H nx =>
  bvK x6 (fun b7 => optK (unV P .not (some (.bool b7))) (fun x8 =>
  bvK x8 (fun b9 => bK b9
 (.ret ⟨.ret (.bool false), false, H, nx⟩)
 (optK (rdBin P H .add 3 true (some t11) (some (.int .i64 1))) (fun x10 =>
  .jump (l79_7 t0 t2 t9 t10 x10 H nx)) .bad)) .bad) .bad) .bad) panK) .bad))) .bad) .bad)
 (.ret ⟨.ret (.bool true), false, H, nx⟩)) .bad) .bad := by kernel_rfl
/-! kindling/kindlingref11.atomsSize -/
noncomputable def l81_9 (t0 : Value) (t3 : Value) (t4 : Value) (H : T OB) (nx : Nat) : Cfg := .at ⟨81, 27, false, [], none, false⟩ (tmOf [(0, t0), (3, t3), (4, t4)]) (todoOf P 81 9) H nx
theorem q81 (a0 : Value) (H : T OB) (nx : Nat) : evT P pl (.call 81 [a0] false none H nx) =
  optK (rdLen P #[64] 3 (some [a0])) (fun x0 =>
  .jump (l81_9 a0 x0 (.int .i64 0) H nx)) .bad := by kernel_rfl
theorem q81_9 (t0 : Value) (t3 : Value) (t4 : Value) (H : T OB) (nx : Nat) : evT P pl (l81_9 t0 t3 t4 H nx) =
  optK (rdLen P #[64] 3 (some [t0])) (fun x0 =>
  optK (rdBin P H .lss 3 false (some t4) (some x0)) (fun x1 =>
  bvK x1 (fun b2 => bK b2 (optK (rdBin P H .lss 3 true (some t3) (some (.int .i64 10000))) (fun x3 =>
  bvK x3 (fun b4 => bK b4
 (optK (rdIndexAddr P 64 (some t0) (some t4)) (fun x5 =>
  optK (rdFieldAddr P 71 (some x5) 3) (fun x6 =>
  optK (rdLoad P H 9 (some x6)) (fun x7 =>
  optK (rdLen P #[9] 3 (some [x7])) (fun x8 =>
  optK (rdBin P H .quo 3 true (some x8) (some (.int .i64 8))) (fun x9 =>
  optK (rdBin P H .add 3 false (some t3) (some x9)) (fun x10 =>
  optK (rdBin P H .add 3 true (some t4) (some (.int .i64 1))) (fun x11 =>
  .jump (l81_9 t0 x10 x11 H nx)) .bad) .bad) .bad) .bad) .bad) .bad) .bad)
 (.ret ⟨.ret t3, false, H, nx⟩)) .bad) .bad) (.ret ⟨.ret t3, false, H, nx⟩)) .bad) .bad) .bad := by kernel_rfl
/-! kindling/num.Text -/
noncomputable def l82_10 (t0 : Value) (t3 : Value) (H : T OB) (nx : Nat) : Cfg := .at ⟨82, 33, false, [], none, false⟩ (tmOf [(0, t0), (3, t3)]) (todoOf P 82 10) H nx
noncomputable def l82_15 (t0 : Value) (t3 : Value) (t4 : Value) (t5 : Value) (H : T OB) (nx : Nat) : Cfg := .at ⟨82, 33, false, [], none, false⟩ (tmOf [(0, t0), (3, t3), (4, t4), (5, t5)]) (todoOf P 82 15) H nx
noncomputable def l82_28 (t4 : Value) (t5 : Value) (H : T OB) (nx : Nat) : Cfg := .at ⟨82, 33, false, [], none, false⟩ (tmOf [(4, t4), (5, t5)]) (todoOf P 82 28) H nx
theorem q82 (a0 : Value) (H : T OB) (nx : Nat) : evT P pl (.call 82 [a0] false none H nx) =
  optK (rdConv P H 2 173 (some a0)) (fun x0 =>
  optK (rdBin P H .lss 2 true (some a0) (some (.int .i64 0))) (fun x1 =>
  bvK x1 (fun b2 => bK b2
 (optK (unV P .neg (some x0)) (fun x3 =>
  .jump (l82_10 a0 x3 H nx)) .bad)
 (.jump (l82_10 a0 x0 H nx))) .bad) .bad) .bad := by kernel_rfl
theorem q82_10 (t0 : Value) (t3 : Value) (H : T OB) (nx : Nat) : evT P pl (l82_10 t0 t3 H nx) =
  effQ (efAlloc P H nx 174) (fun x0 H nx =>
  .jump (l82_15 t0 t3 x0 (.int .i64 20) H nx)) := by kernel_rfl
theorem q82_15 (t0 : Value) (t3 : Value) (t4 : Value) (t5 : Value) (H : T OB) (nx : Nat) : evT P pl (l82_15 t0 t3 t4 t5 H nx) =
  optK (rdBin P H .sub 3 true (some t5) (some (.int .i64 1))) (fun x0 =>
  optK (rdBin P H .rem 173 true (some t3) (some (.int .u64 10))) (fun x1 =>
  optK (rdBin P H .add 173 true (some (.int .u64 48)) (some x1)) (fun x2 =>
  optK (rdConv P H 173 5 (some x2)) (fun x3 =>
  optK (rdIndexAddr P 174 (some t4) (some x0)) (fun x4 =>
  effQ (efStore P H nx 5 (some x4) (some x3)) (fun x5 H nx =>
  optK (rdBin P H .quo 173 true (some t3) (some (.int .u64 10))) (fun x6 =>
  optK (rdBin P H .eql 173 true (some x6) (some (.int .u64 0))) (fun x7 =>
  bvK x7 (fun b8 => bK b8
 (optK (rdBin P H .lss 2 true (some t0) (some (.int .i64 0))) (fun x9 =>
  bvK x9 (fun b10 => bK b10
 (optK (rdBin P H .sub 3 true (some x0) (some (.int .i64 1))) (fun x11 =>
  optK (rdIndexAddr P 174 (some t4) (some x11)) (fun x12 =>
  effQ (efStore P H nx 5 (some x12) (some (.int .u8 45))) (fun x13 H nx =>
  .jump (l82_28 t4 x11 H nx))) .bad) .bad)
 (.jump (l82_28 t4 x0 H nx))) .bad) .bad)
 (.jump (l82_15 t0 x6 t4 x0 H nx))) .bad) .bad) .bad)) .bad) .bad) .bad) .bad) .bad := by kernel_rfl
theorem q82_28 (t4 : Value) (t5 : Value) (H : T OB) (nx : Nat) : evT P pl (l82_28 t4 t5 H nx) =
  optK (rdSlice P H 174 (some t4) (some (some t5)) (some none) (some none)) (fun x0 =>
  optK (rdConv P H 100 9 (some x0)) (fun x1 =>
  .ret ⟨.ret x1, false, H, nx⟩) .bad) .bad := by kernel_rfl
/-! (*kindling/anf.printer).step -/
noncomputable def l83_48 (t0 : Value) (t3 : Value) (H : T OB) (nx : Nat) : Cfg := .at ⟨83, 95, false, [], none, false⟩ (tmOf [(0, t0), (3, t3)]) (todoOf P 83 48) H nx
theorem q83 (a0 : Value) (a1 : Value) (H : T OB) (nx : Nat) : evT P pl (.call 83 [a0, a1] false none H nx) =
  natF (Nat.succ nx) (fun nx =>
  optK (rdFieldAddr P 125 (some (eptrV a1)) 1) (fun x0 =>
  optK (rdLoad P H 3 (some x0)) (fun x1 =>
  callQ (.call 49 [x1] false none H nx) (fun x2 H nx =>
  optK (rdBin P H .add 9 true (some (.string ⟨⟨[32, 37]⟩⟩)) (some x2)) (fun x3 =>
  optK (rdFieldAddr P 125 (some (eptrV a1)) 0) (fun x4 =>
  optK (rdLoad P H 3 (some x4)) (fun x5 =>
  optK (rdBin P H .eql 3 true (some x5) (some (.int .i64 1))) (fun x6 =>
  bvK x6 (fun b7 => bK b7
 (effQ (efBuildSlice P H nx 148 2 (some [(0, (.string ⟨⟨[40, 109, 111, 118, 101]⟩⟩)), (1, x3)])) (fun x8 H nx =>
  callQ (.call 48 [a0, x8] false none H nx) (fun x9 H nx =>
  .jump (l83_48 a0 (eptrV a1) H nx)) panK))
 (optK (rdBin P H .eql 3 true (some x5) (some (.int .i64 2))) (fun x10 =>
  bvK x10 (fun b11 => bK b11
 (optK (rdFieldAddr P 125 (some (eptrV a1)) 2) (fun x12 =>
  optK (rdLoad P H 3 (some x12)) (fun x13 =>
  callQ (.call 112 [x13] false none H nx) (fun x14 H nx =>
  effQ (efBuildSlice P H nx 148 3 (some [(0, (.string ⟨⟨[40, 112, 114, 105, 109, 32]⟩⟩)), (1, x14), (2, x3)])) (fun x15 H nx =>
  callQ (.call 48 [a0, x15] false none H nx) (fun x16 H nx =>
  .jump (l83_48 a0 (eptrV a1) H nx)) panK)) panK) .bad) .bad)
 (optK (rdBin P H .eql 3 true (some x5) (some (.int .i64 3))) (fun x17 =>
  bvK x17 (fun b18 => bK b18
 (effQ (efBuildSlice P H nx 148 2 (some [(0, (.string ⟨⟨[40, 109, 97, 107, 101]⟩⟩)), (1, x3)])) (fun x19 H nx =>
  callQ (.call 48 [a0, x19] false none H nx) (fun x20 H nx =>
  .jump (l83_48 a0 (eptrV a1) H nx)) panK))
 (optK (rdBin P H .eql 3 true (some x5) (some (.int .i64 4))) (fun x21 =>
  bvK x21 (fun b22 => bK b22
 (optK (rdFieldAddr P 125 (some (eptrV a1)) 2) (fun x23 =>
  optK (rdLoad P H 3 (some x23)) (fun x24 =>
  callQ (.call 49 [x24] false none H nx) (fun x25 H nx =>
  effQ (efBuildSlice P H nx 148 4 (some [(0, (.string ⟨⟨[40, 99, 108, 111, 115, 101]⟩⟩)), (1, x3), (2, (.string ⟨⟨[32]⟩⟩)), (3, x25)])) (fun x26 H nx =>
  callQ (.call 48 [a0, x26] false none H nx) (fun x27 H nx =>
  .jump (l83_48 a0 (eptrV a1) H nx)) panK)) panK) .bad) .bad)
 (optK (rdBin P H .eql 3 true (some x5) (some (.int .i64 5))) (fun x28 =>
  bvK x28 (fun b29 => bK b29
 (optK (rdFieldAddr P 125 (some (eptrV a1)) 2) (fun x30 =>
  optK (rdLoad P H 3 (some x30)) (fun x31 =>
  callQ (.call 49 [x31] false none H nx) (fun x32 H nx =>
  effQ (efBuildSlice P H nx 148 2 (some [(0, (.string ⟨⟨[40, 102, 105, 108, 108, 32]⟩⟩)), (1, x32)])) (fun x33 H nx =>
  callQ (.call 48 [a0, x33] false none H nx) (fun x34 H nx =>
  .jump (l83_48 a0 (eptrV a1) H nx)) panK)) panK) .bad) .bad)
 (optK (rdBin P H .eql 3 true (some x5) (some (.int .i64 6))) (fun x35 =>
  bvK x35 (fun b36 => bK b36
 (optK (rdFieldAddr P 125 (some (eptrV a1)) 2) (fun x37 =>
  optK (rdLoad P H 3 (some x37)) (fun x38 =>
  callQ (.call 49 [x38] false none H nx) (fun x39 H nx =>
  effQ (efBuildSlice P H nx 148 4 (some [(0, (.string ⟨⟨[40, 102, 105, 101, 108, 100]⟩⟩)), (1, x3), (2, (.string ⟨⟨[32]⟩⟩)), (3, x39)])) (fun x40 H nx =>
  callQ (.call 48 [a0, x40] false none H nx) (fun x41 H nx =>
  .jump (l83_48 a0 (eptrV a1) H nx)) panK)) panK) .bad) .bad)
 (optK (rdBin P H .eql 3 true (some x5) (some (.int .i64 7))) (fun x42 =>
  bvK x42 (fun b43 => bK b43
 (effQ (efBuildSlice P H nx 148 2 (some [(0, (.string ⟨⟨[40, 99, 97, 108, 108]⟩⟩)), (1, x3)])) (fun x44 H nx =>
  callQ (.call 48 [a0, x44] false none H nx) (fun x45 H nx =>
  .jump (l83_48 a0 (eptrV a1) H nx)) panK))
 (optK (rdBin P H .eql 3 true (some x5) (some (.int .i64 8))) (fun x46 =>
  bvK x46 (fun b47 => bK b47
 (optK (rdFieldAddr P 125 (some (eptrV a1)) 2) (fun x48 =>
  optK (rdLoad P H 3 (some x48)) (fun x49 =>
  callQ (.call 49 [x49] false none H nx) (fun x50 H nx =>
  effQ (efBuildSlice P H nx 148 2 (some [(0, (.string ⟨⟨[40, 112, 117, 116, 32, 36]⟩⟩)), (1, x50)])) (fun x51 H nx =>
  callQ (.call 48 [a0, x51] false none H nx) (fun x52 H nx =>
  .jump (l83_48 a0 (eptrV a1) H nx)) panK)) panK) .bad) .bad)
 (optK (rdBin P H .eql 3 true (some x5) (some (.int .i64 9))) (fun x53 =>
  bvK x53 (fun b54 => bK b54
 (effQ (efBuildSlice P H nx 148 2 (some [(0, (.string ⟨⟨[40, 105, 102]⟩⟩)), (1, x3)])) (fun x55 H nx =>
  callQ (.call 48 [a0, x55] false none H nx) (fun x56 H nx =>
  .jump (l83_48 a0 (eptrV a1) H nx)) panK))
 (optK (rdBin P H .eql 3 true (some x5) (some (.int .i64 10))) (fun x57 =>
  bvK x57 (fun b58 => bK b58
 (optK (rdFieldAddr P 125 (some (eptrV a1)) 2) (fun x59 =>
  optK (rdLoad P H 3 (some x59)) (fun x60 =>
  callQ (.call 49 [x60] false none H nx) (fun x61 H nx =>
  effQ (efBuildSlice P H nx 148 4 (some [(0, (.string ⟨⟨[40, 116, 114, 121]⟩⟩)), (1, x3), (2, (.string ⟨⟨[32, 37]⟩⟩)), (3, x61)])) (fun x62 H nx =>
  callQ (.call 48 [a0, x62] false none H nx) (fun x63 H nx =>
  .jump (l83_48 a0 (eptrV a1) H nx)) panK)) panK) .bad) .bad)
 (.jump (l83_48 a0 (eptrV a1) H nx))) .bad) .bad)) .bad) .bad)) .bad) .bad)) .bad) .bad)) .bad) .bad)) .bad) .bad)) .bad) .bad)) .bad) .bad)) .bad) .bad)) .bad) .bad) .bad) .bad) .bad) panK) .bad) .bad) := by kernel_rfl
theorem q83_48 (t0 : Value) (t3 : Value) (H : T OB) (nx : Nat) : evT P pl (l83_48 t0 t3 H nx) =
  optK (rdFieldAddr P 125 (some t3) 3) (fun x0 =>
  optK (rdLoad P H 64 (some x0)) (fun x1 =>
  callQ (.call 84 [t0, x1] false none H nx) (fun x2 H nx =>
  optK (rdFieldAddr P 125 (some t3) 4) (fun x3 =>
  optK (rdLoad P H 65 (some x3)) (fun x4 =>
  callQ (.call 85 [t0, x4] false none H nx) (fun x5 H nx =>
  .ret ⟨.ret (.tuple ⟨[]⟩), false, H, nx⟩) panK) .bad) .bad) panK) .bad) .bad := by kernel_rfl
/-! (*kindling/anf.printer).atoms -/
noncomputable def l84_5 (t0 : Value) (t6 : Value) (t7 : Value) (t8 : Value) (H : T OB) (nx : Nat) : Cfg := .at ⟨84, 64, false, [], none, false⟩ (tmOf [(0, t0), (6, t6), (7, t7), (8, t8)]) (todoOf P 84 5) H nx
noncomputable def l84_36 (t0 : Value) (t6 : Value) (t7 : Value) (t8 : Value) (H : T OB) (nx : Nat) : Cfg := .at ⟨84, 64, false, [], none, false⟩ (tmOf [(0, t0), (6, t6), (7, t7), (8, t8)]) (todoOf P 84 36) H nx
theorem q84 (a0 : Value) (a1 : Value) (H : T OB) (nx : Nat) : evT P pl (.call 84 [a0, a1] false none H nx) =
  optK (rdLen P #[64] 3 (some [a1])) (fun x0 =>
  .jump (l84_5 a0 a1 x0 (.int .i64 0) H nx)) .bad := by kernel_rfl
theorem q84_5 (t0 : Value) (t6 : Value) (t7 : Value) (t8 : Value) (H : T OB) (nx : Nat) : evT P pl (l84_5 t0 t6 t7 t8 H nx) =
  optK (rdBin P H .lss 3 false (some t8) (some t7)) (fun x0 =>
  bvK x0 (fun b1 => bK b1
 (optK (rdIndexAddr P 64 (some t6) (some t8)) (fun x2 =>
  optK (rdLoad P H 71 (some x2)) (fun x3 =>
  effQ (efAlloc P H nx 71) (fun x4 H nx =>
  frSt P H nx 71 (some x4) x3 (fun H nx =>
  effQ (efBuildSlice P H nx 148 1 (some [(0, (.string ⟨⟨[32]⟩⟩))])) (fun x5 H nx =>
  callQ (.call 48 [t0, x5] false none H nx) (fun x6 H nx =>
  optK (rdFieldAddr P 71 (some (eptrV x3)) 0) (fun x7 =>
  optK (rdLoad P H 3 (some x7)) (fun x8 =>
  optK (rdBin P H .eql 3 true (some x8) (some (.int .i64 1))) (fun x9 =>
  bvK x9 (fun b10 => bK b10
 (optK (rdFieldAddr P 71 (some (eptrV x3)) 2) (fun x11 =>
  optK (rdLoad P H 2 (some x11)) (fun x12 =>
  callQ (.call 82 [x12] false none H nx) (fun x13 H nx =>
  effQ (efBuildSlice P H nx 148 1 (some [(0, x13)])) (fun x14 H nx =>
  callQ (.call 48 [t0, x14] false none H nx) (fun x15 H nx =>
  .jump (l84_36 t0 t6 t7 t8 H nx)) panK)) panK) .bad) .bad)
 (optK (rdBin P H .eql 3 true (some x8) (some (.int .i64 2))) (fun x16 =>
  bvK x16 (fun b17 => bK b17
 (optK (rdFieldAddr P 71 (some (eptrV x3)) 3) (fun x18 =>
  optK (rdLoad P H 9 (some x18)) (fun x19 =>
  optK (rdBuild P 25 (some [(0, (.int .i64 2)), (3, x19)])) (fun x20 =>
  callQ (.call 113 [x20] false none H nx) (fun x21 H nx =>
  effQ (efBuildSlice P H nx 148 1 (some [(0, x21)])) (fun x22 H nx =>
  callQ (.call 48 [t0, x22] false none H nx) (fun x23 H nx =>
  .jump (l84_36 t0 t6 t7 t8 H nx)) panK)) panK) .bad) .bad) .bad)
 (optK (rdBin P H .eql 3 true (some x8) (some (.int .i64 3))) (fun x24 =>
  bvK x24 (fun b25 => bK b25
 (optK (rdFieldAddr P 71 (some (eptrV x3)) 1) (fun x26 =>
  optK (rdLoad P H 3 (some x26)) (fun x27 =>
  callQ (.call 49 [x27] false none H nx) (fun x28 H nx =>
  effQ (efBuildSlice P H nx 148 2 (some [(0, (.string ⟨⟨[37]⟩⟩)), (1, x28)])) (fun x29 H nx =>
  callQ (.call 48 [t0, x29] false none H nx) (fun x30 H nx =>
  .jump (l84_36 t0 t6 t7 t8 H nx)) panK)) panK) .bad) .bad)
 (optK (rdBin P H .eql 3 true (some x8) (some (.int .i64 4))) (fun x31 =>
  bvK x31 (fun b32 => bK b32
 (effQ (efBuildSlice P H nx 148 1 (some [(0, (.string ⟨⟨[97, 114, 103]⟩⟩))])) (fun x33 H nx =>
  callQ (.call 48 [t0, x33] false none H nx) (fun x34 H nx =>
  .jump (l84_36 t0 t6 t7 t8 H nx)) panK))
 (optK (rdBin P H .eql 3 true (some x8) (some (.int .i64 5))) (fun x35 =>
  bvK x35 (fun b36 => bK b36
 (optK (rdFieldAddr P 71 (some (eptrV x3)) 1) (fun x37 =>
  optK (rdLoad P H 3 (some x37)) (fun x38 =>
  callQ (.call 49 [x38] false none H nx) (fun x39 H nx =>
  effQ (efBuildSlice P H nx 148 2 (some [(0, (.string ⟨⟨[94]⟩⟩)), (1, x39)])) (fun x40 H nx =>
  callQ (.call 48 [t0, x40] false none H nx) (fun x41 H nx =>
  .jump (l84_36 t0 t6 t7 t8 H nx)) panK)) panK) .bad) .bad)
 (optK (rdBin P H .eql 3 true (some x8) (some (.int .i64 6))) (fun x42 =>
  bvK x42 (fun b43 => bK b43
 (optK (rdFieldAddr P 71 (some (eptrV x3)) 1) (fun x44 =>
  optK (rdLoad P H 3 (some x44)) (fun x45 =>
  callQ (.call 49 [x45] false none H nx) (fun x46 H nx =>
  effQ (efBuildSlice P H nx 148 2 (some [(0, (.string ⟨⟨[36]⟩⟩)), (1, x46)])) (fun x47 H nx =>
  callQ (.call 48 [t0, x47] false none H nx) (fun x48 H nx =>
  .jump (l84_36 t0 t6 t7 t8 H nx)) panK)) panK) .bad) .bad)
 (.jump (l84_36 t0 t6 t7 t8 H nx))) .bad) .bad)) .bad) .bad)) .bad) .bad)) .bad) .bad)) .bad) .bad)) .bad) .bad) .bad) .bad) panK)))) .bad) .bad)
 (.ret ⟨.ret (.tuple ⟨[]⟩), false, H, nx⟩)) .bad) .bad := by kernel_rfl
theorem q84_36 (t0 : Value) (t6 : Value) (t7 : Value) (t8 : Value) (H : T OB) (nx : Nat) : evT P pl (l84_36 t0 t6 t7 t8 H nx) =
  optK (rdBin P H .add 3 true (some t8) (some (.int .i64 1))) (fun x0 =>
  .jump (l84_5 t0 t6 t7 x0 H nx)) .bad := by kernel_rfl
/-! (*kindling/anf.printer).blocks -/
noncomputable def l85_5 (t0 : Value) (t6 : Value) (t7 : Value) (t8 : Value) (H : T OB) (nx : Nat) : Cfg := .at ⟨85, 22, false, [], none, false⟩ (tmOf [(0, t0), (6, t6), (7, t7), (8, t8)]) (todoOf P 85 5) H nx
theorem q85 (a0 : Value) (a1 : Value) (H : T OB) (nx : Nat) : evT P pl (.call 85 [a0, a1] false none H nx) =
  optK (rdLen P #[65] 3 (some [a1])) (fun x0 =>
  .jump (l85_5 a0 a1 x0 (.int .i64 0) H nx)) .bad := by kernel_rfl
theorem q85_5 (t0 : Value) (t6 : Value) (t7 : Value) (t8 : Value) (H : T OB) (nx : Nat) : evT P pl (l85_5 t0 t6 t7 t8 H nx) =
  optK (rdBin P H .lss 3 false (some t8) (some t7)) (fun x0 =>
  bvK x0 (fun b1 => bK b1
 (optK (rdIndexAddr P 65 (some t6) (some t8)) (fun x2 =>
  optK (rdLoad P H 67 (some x2)) (fun x3 =>
  effQ (efAlloc P H nx 67) (fun x4 H nx =>
  frSt P H nx 67 (some x4) x3 (fun H nx =>
  effQ (efBuildSlice P H nx 148 1 (some [(0, (.string ⟨⟨[32]⟩⟩))])) (fun x5 H nx =>
  callQ (.call 48 [t0, x5] false none H nx) (fun x6 H nx =>
  optK (rdLoad P H 67 (some (eptrV x3))) (fun x7 =>
  callQ (.call 50 [t0, x7] false none H nx) (fun x8 H nx =>
  optK (rdBin P H .add 3 true (some t8) (some (.int .i64 1))) (fun x9 =>
  .jump (l85_5 t0 t6 t7 x9 H nx)) .bad) panK) .bad) panK)))) .bad) .bad)
 (effQ (efBuildSlice P H nx 148 1 (some [(0, (.string ⟨⟨[41]⟩⟩))])) (fun x10 H nx =>
  callQ (.call 48 [t0, x10] false none H nx) (fun x11 H nx =>
  .ret ⟨.ret (.tuple ⟨[]⟩), false, H, nx⟩) panK))) .bad) .bad := by kernel_rfl
end
end Go.Proofs.YtfdgoenmdalphaaGreatDoor
