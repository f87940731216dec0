/- What functions of the program say, as trees. -/
import Derived.Test.YtfdgoenmdalphaaGreatDoorRa0
import Derived.KernelRfl
namespace Go.Proofs.YtfdgoenmdalphaaGreatDoor
open Go.Ev Go.RowKit
noncomputable section
set_option linter.unusedVariables false
set_option maxHeartbeats 8000000
/-! (*kindling/anf.reader).shape -/
noncomputable def l78_8 (t0 : Value) (t3 : Value) (t5 : Value) (t6 : Value) (t7 : Bool) (t8 : Bool) (H : T OB) (nx : Nat) : Cfg := .at ⟨78, 137, false, [], none, false⟩ (tmOf [(0, t0), (3, t3), (5, t5), (6, t6), (7, .bool t7), (8, .bool t8)]) (todoOf P 78 8) H nx
noncomputable def l78_54 (t3 : Value) (t5 : Value) (t6 : Value) (t7 : Bool) (t8 : Bool) (H : T OB) (nx : Nat) : Cfg := .at ⟨78, 137, false, [], none, false⟩ (tmOf [(3, t3), (5, t5), (6, t6), (7, .bool t7), (8, .bool t8)]) (todoOf P 78 54) H nx
noncomputable def l78_26 (t0 : Value) (t3 : Value) (t5 : Value) (t6 : Value) (t7 : Bool) (t8 : Bool) (H : T OB) (nx : Nat) : Cfg := .at ⟨78, 137, false, [], none, false⟩ (tmOf [(0, t0), (3, t3), (5, t5), (6, t6), (7, .bool t7), (8, .bool t8)]) (todoOf P 78 26) H nx
theorem q78 (a0 : Value) (a1 : Value) (H : T OB) (nx : Nat) : evT P pl (.call 78 [a0, a1] false none H nx) =
  natF (Nat.succ nx) (fun nx =>
  optK (rdFieldAddr P 125 (some (eptrV a1)) 2) (fun x0 =>
  optK (rdLoad P H 3 (some x0)) (fun x1 =>
  optK (rdBin P H .eql 3 true (some x1) (some (.int .i64 0))) (fun x2 =>
  bvK x2 (fun b3 => optK (rdFieldAddr P 125 (some (eptrV a1)) 1) (fun x4 =>
  optK (rdLoad P H 3 (some x4)) (fun x5 =>
  optK (rdBin P H .geq 3 true (some x5) (some (.int .i64 0))) (fun x6 =>
  bvK x6 (fun b7 => bK b7 (optK (rdFieldAddr P 125 (some (eptrV a1)) 1) (fun x8 =>
  optK (rdLoad P H 3 (some x8)) (fun x9 =>
  optK (rdNil (some a0)) (fun x10 =>
  optK (rdFieldAddr P 95 (some x10) 1) (fun x11 =>
  optK (rdFieldAddr P 69 (some x11) 1) (fun x12 =>
  optK (rdLoad P H 3 (some x12)) (fun x13 =>
  optK (rdBin P H .lss 3 false (some x9) (some x13)) (fun x14 =>
  bvK x14 (fun b15 => .jump (l78_8 a0 (eptrV a1) (.int .i64 1) (.int .i64 0) b3 b15 H nx)) .bad) .bad) .bad) .bad) .bad) .bad) .bad) .bad) (.jump (l78_8 a0 (eptrV a1) (.int .i64 1) (.int .i64 0) b3 false H nx))) .bad) .bad) .bad) .bad) .bad) .bad) .bad) .bad) := by kernel_rfl
theorem q78_8 (t0 : Value) (t3 : Value) (t5 : Value) (t6 : Value) (t7 : Bool) (t8 : Bool) (H : T OB) (nx : Nat) : evT P pl (l78_8 t0 t3 t5 t6 t7 t8 H nx) =
  optK (rdFieldAddr P 125 (some t3) 0) (fun x0 =>
  optK (rdLoad P H 3 (some x0)) (fun x1 =>
  optK (rdBin P H .eql 3 true (some x1) (some (.int .i64 1))) (fun x2 =>
  bvK x2 (fun b3 => bK b3
 (.jump (l78_54 t3 t5 t6 t7 t8 H nx))
 (optK (rdBin P H .eql 3 true (some x1) (some (.int .i64 2))) (fun x4 =>
  bvK x4 (fun b5 => bK b5
 (optK (rdFieldAddr P 125 (some t3) 2) (fun x6 =>
  optK (rdLoad P H 3 (some x6)) (fun x7 =>
  optK (rdFieldAddr P 125 (some t3) 2) (fun x8 =>
  optK (rdLoad P H 3 (some x8)) (fun x9 =>
  callQ (.call 110 [x7] false none H nx) (fun x10 H nx =>
  bK (optK (rdLoad P H 3 (some x8)) (fun u => vEq u x9) false && true) (callQ (.call 110 [x9] false none H nx) (fun x11 H nx =>
  optK (rdBin P H .gtr 3 true (some x11) (some (.int .i64 0))) (fun x12 =>
  bvK x12 (fun b13 => .jump (l78_54 t3 x10 t6 b13 t8 H nx)) .bad) .bad) panK) .bad) panK) .bad) .bad) .bad) .bad)
 (optK (rdBin P H .eql 3 true (some x1) (some (.int .i64 3))) (fun x14 =>
  bvK x14 (fun b15 => bK b15
 (optK (rdFieldAddr P 125 (some t3) 3) (fun x16 =>
  optK (rdLoad P H 64 (some x16)) (fun x17 =>
  optK (rdLen P #[64] 3 (some [x17])) (fun x18 =>
  optK (bltV P .max #[3, 3] 3 (some [(.int .i64 1), x18])) (fun x19 =>
  .jump (l78_54 t3 x19 t6 t7 t8 H nx)) .bad) .bad) .bad) .bad)
 (optK (rdBin P H .eql 3 true (some x1) (some (.int .i64 4))) (fun x20 =>
  bvK x20 (fun b21 => bK b21
 (optK (rdFieldAddr P 125 (some t3) 2) (fun x22 =>
  optK (rdLoad P H 3 (some x22)) (fun x23 =>
  optK (rdBin P H .geq 3 true (some x23) (some (.int .i64 0))) (fun x24 =>
  bvK x24 (fun b25 => bK b25 (optK (rdFieldAddr P 125 (some t3) 2) (fun x26 =>
  optK (rdLoad P H 3 (some x26)) (fun x27 =>
  optK (rdNil (some t0)) (fun x28 =>
  optK (rdFieldAddr P 95 (some x28) 0) (fun x29 =>
  optK (rdLoad P H 30 (some x29)) (fun x30 =>
  optK (rdLen P #[30] 3 (some [x30])) (fun x31 =>
  optK (rdBin P H .lss 3 false (some x27) (some x31)) (fun x32 =>
  bvK x32 (fun b33 => .jump (l78_26 t0 t3 t5 t6 b33 t8 H nx)) .bad) .bad) .bad) .bad) .bad) .bad) .bad) .bad) (.jump (l78_26 t0 t3 t5 t6 false t8 H nx))) .bad) .bad) .bad) .bad)
 (optK (rdBin P H .eql 3 true (some x1) (some (.int .i64 5))) (fun x34 =>
  bvK x34 (fun b35 => bK b35
 (optK (rdFieldAddr P 125 (some t3) 2) (fun x36 =>
  optK (rdLoad P H 3 (some x36)) (fun x37 =>
  optK (rdBin P H .geq 3 true (some x37) (some (.int .i64 0))) (fun x38 =>
  bvK x38 (fun b39 => optK (rdFieldAddr P 125 (some t3) 1) (fun x40 =>
  optK (rdLoad P H 3 (some x40)) (fun x41 =>
  optK (rdBin P H .eql 3 true (some x41) (some (.int .i64 0))) (fun x42 =>
  bvK x42 (fun b43 => .jump (l78_54 t3 (.int .i64 2) t6 b39 b43 H nx)) .bad) .bad) .bad) .bad) .bad) .bad) .bad) .bad)
 (optK (rdBin P H .eql 3 true (some x1) (some (.int .i64 6))) (fun x44 =>
  bvK x44 (fun b45 => bK b45
 (optK (rdFieldAddr P 125 (some t3) 2) (fun x46 =>
  optK (rdLoad P H 3 (some x46)) (fun x47 =>
  optK (rdBin P H .geq 3 true (some x47) (some (.int .i64 0))) (fun x48 =>
  bvK x48 (fun b49 => bK b49 (optK (rdFieldAddr P 125 (some t3) 2) (fun x50 =>
  optK (rdLoad P H 3 (some x50)) (fun x51 =>
  optK (rdBin P H .lss 3 true (some x51) (some (.int .i64 16384))) (fun x52 =>
  bvK x52 (fun b53 => .jump (l78_54 t3 t5 t6 b53 t8 H nx)) .bad) .bad) .bad) .bad) (.jump (l78_54 t3 t5 t6 false t8 H nx))) .bad) .bad) .bad) .bad)
 (optK (rdBin P H .eql 3 true (some x1) (some (.int .i64 7))) (fun x54 =>
  bvK x54 (fun b55 => bK b55
 (.jump (l78_54 t3 (.int .i64 2) t6 t7 t8 H nx))
 (optK (rdBin P H .eql 3 true (some x1) (some (.int .i64 8))) (fun x56 =>
  bvK x56 (fun b57 => bK b57
 (optK (rdFieldAddr P 125 (some t3) 2) (fun x58 =>
  optK (rdLoad P H 3 (some x58)) (fun x59 =>
  optK (rdBin P H .geq 3 true (some x59) (some (.int .i64 0))) (fun x60 =>
  bvK x60 (fun b61 => bK b61 (optK (rdFieldAddr P 125 (some t3) 2) (fun x62 =>
  optK (rdLoad P H 3 (some x62)) (fun x63 =>
  optK (rdBin P H .lss 3 true (some x63) (some (.int .i64 1024))) (fun x64 =>
  bvK x64 (fun b65 => optK (rdFieldAddr P 125 (some t3) 1) (fun x66 =>
  optK (rdLoad P H 3 (some x66)) (fun x67 =>
  optK (rdBin P H .eql 3 true (some x67) (some (.int .i64 0))) (fun x68 =>
  bvK x68 (fun b69 => .jump (l78_54 t3 t5 t6 b65 b69 H nx)) .bad) .bad) .bad) .bad) .bad) .bad) .bad) .bad) (optK (rdFieldAddr P 125 (some t3) 1) (fun x70 =>
  optK (rdLoad P H 3 (some x70)) (fun x71 =>
  optK (rdBin P H .eql 3 true (some x71) (some (.int .i64 0))) (fun x72 =>
  bvK x72 (fun b73 => .jump (l78_54 t3 t5 t6 false b73 H nx)) .bad) .bad) .bad) .bad)) .bad) .bad) .bad) .bad)
 (optK (rdBin P H .eql 3 true (some x1) (some (.int .i64 9))) (fun x74 =>
  bvK x74 (fun b75 => bK b75
 (.jump (l78_54 t3 t5 (.int .i64 2) t7 t8 H nx))
 (optK (rdBin P H .eql 3 true (some x1) (some (.int .i64 10))) (fun x76 =>
  bvK x76 (fun b77 => bK b77
 (optK (rdFieldAddr P 125 (some t3) 2) (fun x78 =>
  optK (rdLoad P H 3 (some x78)) (fun x79 =>
  optK (rdBin P H .geq 3 true (some x79) (some (.int .i64 0))) (fun x80 =>
  bvK x80 (fun b81 => bK b81 (optK (rdFieldAddr P 125 (some t3) 2) (fun x82 =>
  optK (rdLoad P H 3 (some x82)) (fun x83 =>
  optK (rdNil (some t0)) (fun x84 =>
  optK (rdFieldAddr P 95 (some x84) 1) (fun x85 =>
  optK (rdFieldAddr P 69 (some x85) 1) (fun x86 =>
  optK (rdLoad P H 3 (some x86)) (fun x87 =>
  optK (rdBin P H .lss 3 false (some x83) (some x87)) (fun x88 =>
  bvK x88 (fun b89 => .jump (l78_54 t3 (.int .i64 0) (.int .i64 2) b89 t8 H nx)) .bad) .bad) .bad) .bad) .bad) .bad) .bad) .bad) (.jump (l78_54 t3 (.int .i64 0) (.int .i64 2) false t8 H nx))) .bad) .bad) .bad) .bad)
 (.ret ⟨.ret (.bool false), false, H, nx⟩)) .bad) .bad)) .bad) .bad)) .bad) .bad)) .bad) .bad)) .bad) .bad)) .bad) .bad)) .bad) .bad)) .bad) .bad)) .bad) .bad)) .bad) .bad) .bad) .bad := by kernel_rfl
theorem q78_54 (t3 : Value) (t5 : Value) (t6 : Value) (t7 : Bool) (t8 : Bool) (H : T OB) (nx : Nat) : evT P pl (l78_54 t3 t5 t6 t7 t8 H nx) =
  bK t7 (bK t8 (optK (rdFieldAddr P 125 (some t3) 3) (fun x0 =>
  optK (rdLoad P H 64 (some x0)) (fun x1 =>
  optK (rdLen P #[64] 3 (some [x1])) (fun x2 =>
  optK (rdBin P H .eql 3 false (some x2) (some t5)) (fun x3 =>
  bvK x3 (fun b4 => bK b4 (optK (rdFieldAddr P 125 (some t3) 4) (fun x5 =>
  optK (rdLoad P H 65 (some x5)) (fun x6 =>
  optK (rdLen P #[65] 3 (some [x6])) (fun x7 =>
  optK (rdBin P H .eql 3 false (some x7) (some t6)) (fun x8 =>
  bvK x8 (fun b9 => .ret ⟨.ret (.bool b9), false, H, nx⟩) .bad) .bad) .bad) .bad) .bad) (.ret ⟨.ret (.bool false), false, H, nx⟩)) .bad) .bad) .bad) .bad) .bad) (.ret ⟨.ret (.bool false), false, H, nx⟩)) (.ret ⟨.ret (.bool false), false, H, nx⟩) := by kernel_rfl
theorem q78_26 (t0 : Value) (t3 : Value) (t5 : Value) (t6 : Value) (t7 : Bool) (t8 : Bool) (H : T OB) (nx : Nat) : evT P pl (l78_26 t0 t3 t5 t6 t7 t8 H nx) =
  bK t7
 (optK (rdNil (some t0)) (fun x0 =>
  optK (rdFieldAddr P 95 (some x0) 0) (fun x1 =>
  optK (rdLoad P H 30 (some x1)) (fun x2 =>
  optK (rdFieldAddr P 125 (some t3) 2) (fun x3 =>
  optK (rdLoad P H 3 (some x3)) (fun x4 =>
  optK (rdIndexAddr P 30 (some x2) (some x4)) (fun x5 =>
  optK (rdFieldAddr P 69 (some x5) 0) (fun x6 =>
  optK (rdLoad P H 3 (some x6)) (fun x7 =>
  bK t7 (bK t8 (optK (rdFieldAddr P 125 (some t3) 3) (fun x8 =>
  optK (rdLoad P H 64 (some x8)) (fun x9 =>
  optK (rdLen P #[64] 3 (some [x9])) (fun x10 =>
  optK (rdBin P H .eql 3 false (some x10) (some x7)) (fun x11 =>
  bvK x11 (fun b12 => bK b12 (optK (rdFieldAddr P 125 (some t3) 4) (fun x13 =>
  optK (rdLoad P H 65 (some x13)) (fun x14 =>
  optK (rdLen P #[65] 3 (some [x14])) (fun x15 =>
  optK (rdBin P H .eql 3 false (some x15) (some t6)) (fun x16 =>
  bvK x16 (fun b17 => .ret ⟨.ret (.bool b17), false, H, nx⟩) .bad) .bad) .bad) .bad) .bad) (.ret ⟨.ret (.bool false), false, H, nx⟩)) .bad) .bad) .bad) .bad) .bad) (.ret ⟨.ret (.bool false), false, H, nx⟩)) (.ret ⟨.ret (.bool false), false, H, nx⟩)) .bad) .bad) .bad) .bad) .bad) .bad) .bad) .bad)
 (bK t7 (bK t8 (optK (rdFieldAddr P 125 (some t3) 3) (fun x18 =>
  optK (rdLoad P H 64 (some x18)) (fun x19 =>
  optK (rdLen P #[64] 3 (some [x19])) (fun x20 =>
  optK (rdBin P H .eql 3 false (some x20) (some t5)) (fun x21 =>
  bvK x21 (fun b22 => bK b22 (optK (rdFieldAddr P 125 (some t3) 4) (fun x23 =>
  optK (rdLoad P H 65 (some x23)) (fun x24 =>
  optK (rdLen P #[65] 3 (some [x24])) (fun x25 =>
  optK (rdBin P H .eql 3 false (some x25) (some t6)) (fun x26 =>
  bvK x26 (fun b27 => .ret ⟨.ret (.bool b27), false, H, nx⟩) .bad) .bad) .bad) .bad) .bad) (.ret ⟨.ret (.bool false), false, H, nx⟩)) .bad) .bad) .bad) .bad) .bad) (.ret ⟨.ret (.bool false), false, H, nx⟩)) (.ret ⟨.ret (.bool false), false, H, nx⟩)) := by kernel_rfl
/-! (*kindling/anf.reader).atoms -/
noncomputable def l79_7 (t0 : Value) (t2 : Value) (t9 : Value) (t10 : Value) (t11 : Value) (H : T OB) (nx : Nat) : Cfg := .at ⟨79, 21, false, [], none, false⟩ (tmOf [(0, t0), (2, t2), (9, t9), (10, t10), (11, t11)]) (todoOf P 79 7) H nx
theorem q79 (a0 : Value) (a1 : Value) (a2 : Value) (H : T OB) (nx : Nat) : evT P pl (.call 79 [a0, a1, a2] false none H nx) =
  optK (rdLen P #[64] 3 (some [a1])) (fun x0 =>
  .jump (l79_7 a0 a2 a1 x0 (.int .i64 0) H nx)) .bad := by kernel_rfl
theorem q79_7 (t0 : Value) (t2 : Value) (t9 : Value) (t10 : Value) (t11 : Value) (H : T OB) (nx : Nat) : evT P pl (l79_7 t0 t2 t9 t10 t11 H nx) =
  optK (rdBin P H .lss 3 false (some t11) (some t10)) (fun x0 =>
  bvK x0 (fun b1 => bK b1
 (optK (rdIndexAddr P 64 (some t9) (some t11)) (fun x2 =>
  optK (rdLoad P H 71 (some x2)) (fun x3 =>
  effQ (efAlloc P H nx 71) (fun x4 H nx =>
  frSt P H nx 71 (some x4) x3 (fun H nx =>
  optK (rdLoad P H 71 (some (eptrV x3))) (fun x5 =>
  callQ (.call 111 [t0, x5, t2] false none H nx) (fun x6 H nx =>
  bvK x6 (fun b7 => optK (unV P .not (some (.bool b7))) (fun x8 =>
  bvK x8 (fun b9 => bK b9
 (.ret ⟨.ret (.bool false), false, H, nx⟩)
 (optK (rdBin P H .add 3 true (some t11) (some (.int .i64 1))) (fun x10 =>
  .jump (l79_7 t0 t2 t9 t10 x10 H nx)) .bad)) .bad) .bad) .bad) panK) .bad))) .bad) .bad)
 (.ret ⟨.ret (.bool true), false, H, nx⟩)) .bad) .bad := by kernel_rfl
/-! kindling/kindlingref11.atomsSize -/
noncomputable def l81_9 (t0 : Value) (t3 : Value) (t4 : Value) (H : T OB) (nx : Nat) : Cfg := .at ⟨81, 27, false, [], none, false⟩ (tmOf [(0, t0), (3, t3), (4, t4)]) (todoOf P 81 9) H nx
theorem q81 (a0 : Value) (H : T OB) (nx : Nat) : evT P pl (.call 81 [a0] false none H nx) =
  optK (rdLen P #[64] 3 (some [a0])) (fun x0 =>
  .jump (l81_9 a0 x0 (.int .i64 0) H nx)) .bad := by kernel_rfl
theorem q81_9 (t0 : Value) (t3 : Value) (t4 : Value) (H : T OB) (nx : Nat) : evT P pl (l81_9 t0 t3 t4 H nx) =
  optK (rdLen P #[64] 3 (some [t0])) (fun x0 =>
  optK (rdBin P H .lss 3 false (some t4) (some x0)) (fun x1 =>
  bvK x1 (fun b2 => bK b2 (optK (rdBin P H .lss 3 true (some t3) (some (.int .i64 10000))) (fun x3 =>
  bvK x3 (fun b4 => bK b4
 (optK (rdIndexAddr P 64 (some t0) (some t4)) (fun x5 =>
  optK (rdFieldAddr P 71 (some x5) 3) (fun x6 =>
  optK (rdLoad P H 9 (some x6)) (fun x7 =>
  optK (rdLen P #[9] 3 (some [x7])) (fun x8 =>
  optK (rdBin P H .quo 3 true (some x8) (some (.int .i64 8))) (fun x9 =>
  optK (rdBin P H .add 3 false (some t3) (some x9)) (fun x10 =>
  optK (rdBin P H .add 3 true (some t4) (some (.int .i64 1))) (fun x11 =>
  .jump (l81_9 t0 x10 x11 H nx)) .bad) .bad) .bad) .bad) .bad) .bad) .bad)
 (.ret ⟨.ret t3, false, H, nx⟩)) .bad) .bad) (.ret ⟨.ret t3, false, H, nx⟩)) .bad) .bad) .bad := by kernel_rfl
/-! kindling/kindlingref10.Takes -/
noncomputable def l90_10 (t0 : Value) (t3 : Bool) (H : T OB) (nx : Nat) : Cfg := .at ⟨90, 41, false, [], none, false⟩ (tmOf [(0, t0), (3, .bool t3)]) (todoOf P 90 10) H nx
theorem q90 (a0 : Value) (H : T OB) (nx : Nat) : evT P pl (.call 90 [a0] false none H nx) =
  optK (rdBin P H .eql 3 true (some a0) (some (.int .i64 21))) (fun x0 =>
  bvK x0 (fun b1 => bK b1
 (.ret ⟨.ret (.int .i64 2), false, H, nx⟩)
 (optK (rdBin P H .geq 3 true (some a0) (some (.int .i64 7))) (fun x2 =>
  bvK x2 (fun b3 => bK b3 (optK (rdBin P H .leq 3 true (some a0) (some (.int .i64 15))) (fun x4 =>
  bvK x4 (fun b5 => bK b5 (.jump (l90_10 a0 true H nx)) (optK (rdBin P H .eql 3 true (some a0) (some (.int .i64 18))) (fun x6 =>
  bvK x6 (fun b7 => bK b7 (.jump (l90_10 a0 true H nx)) (optK (rdBin P H .eql 3 true (some a0) (some (.int .i64 22))) (fun x8 =>
  bvK x8 (fun b9 => bK b9 (.jump (l90_10 a0 true H nx)) (optK (rdBin P H .geq 3 true (some a0) (some (.int .i64 32))) (fun x10 =>
  bvK x10 (fun b11 => bK b11 (optK (rdBin P H .leq 3 true (some a0) (some (.int .i64 36))) (fun x12 =>
  bvK x12 (fun b13 => .jump (l90_10 a0 b13 H nx)) .bad) .bad) (.jump (l90_10 a0 false H nx))) .bad) .bad)) .bad) .bad)) .bad) .bad)) .bad) .bad) (optK (rdBin P H .eql 3 true (some a0) (some (.int .i64 18))) (fun x14 =>
  bvK x14 (fun b15 => bK b15 (.jump (l90_10 a0 true H nx)) (optK (rdBin P H .eql 3 true (some a0) (some (.int .i64 22))) (fun x16 =>
  bvK x16 (fun b17 => bK b17 (.jump (l90_10 a0 true H nx)) (optK (rdBin P H .geq 3 true (some a0) (some (.int .i64 32))) (fun x18 =>
  bvK x18 (fun b19 => bK b19 (optK (rdBin P H .leq 3 true (some a0) (some (.int .i64 36))) (fun x20 =>
  bvK x20 (fun b21 => .jump (l90_10 a0 b21 H nx)) .bad) .bad) (.jump (l90_10 a0 false H nx))) .bad) .bad)) .bad) .bad)) .bad) .bad)) .bad) .bad)) .bad) .bad := by kernel_rfl
theorem q90_10 (t0 : Value) (t3 : Bool) (H : T OB) (nx : Nat) : evT P pl (l90_10 t0 t3 H nx) =
  optK (unV P .not (some (.bool t3))) (fun x0 =>
  bvK x0 (fun b1 => bK b1
 (.ret ⟨.ret (.int .i64 0), false, H, nx⟩)
 (callQ (.call 114 [t0] false none H nx) (fun x2 H nx =>
  optK (rdExtract (some x2) 0) (fun x3 =>
  optK (rdExtract (some x2) 1) (fun x4 =>
  bvK x4 (fun b5 => effQ (efAlloc P H nx 177) (fun x6 H nx =>
  frSt P H nx 177 (some x6) x3 (fun H nx =>
  optK (rdFieldAddr P 177 (some (eptrV x3)) 1) (fun x7 =>
  optK (rdLoad P H 9 (some x7)) (fun x8 =>
  optK (rdLen P #[9] 3 (some [x8])) (fun x9 =>
  optK (rdBin P H .sub 3 true (some x9) (some (.int .i64 1))) (fun x10 =>
  .ret ⟨.ret x10, false, H, nx⟩) .bad) .bad) .bad) .bad))) .bad) .bad) .bad) panK)) .bad) .bad := by kernel_rfl
/-! kindling/num.Fit -/
theorem q91 (a0 : Value) (H : T OB) (nx : Nat) : evT P pl (.call 91 [a0] false none H nx) =
  optK (rdBin P H .geq 2 true (some a0) (some (.int .i64 (-4611686018427387904)))) (fun x0 =>
  bvK x0 (fun b1 => bK b1 (optK (rdBin P H .leq 2 true (some a0) (some (.int .i64 4611686018427387903))) (fun x2 =>
  bvK x2 (fun b3 => .ret ⟨.ret (.bool b3), false, H, nx⟩) .bad) .bad) (.ret ⟨.ret (.bool false), false, H, nx⟩)) .bad) .bad := by kernel_rfl
/-! kindling/core.fixed -/
noncomputable def l92_6 (t1 : Value) (t27 : Bool) (H : T OB) (nx : Nat) : Cfg := .at ⟨92, 55, false, [], none, false⟩ (tmOf [(1, t1), (27, .bool t27)]) (todoOf P 92 6) H nx
noncomputable def l92_13 (t3 : Value) (t30 : Value) (t31 : Value) (t32 : Value) (H : T OB) (nx : Nat) : Cfg := .at ⟨92, 55, false, [], none, false⟩ (tmOf [(3, t3), (30, t30), (31, t31), (32, t32)]) (todoOf P 92 13) H nx
noncomputable def l92_18 (t3 : Value) (t4 : Value) (t5 : Value) (t30 : Value) (t31 : Value) (t32 : Value) (t48 : Bool) (H : T OB) (nx : Nat) : Cfg := .at ⟨92, 55, false, [], none, false⟩ (tmOf [(3, t3), (4, t4), (5, t5), (30, t30), (31, t31), (32, t32), (48, .bool t48)]) (todoOf P 92 18) H nx
theorem q92 (a0 : Value) (H : T OB) (nx : Nat) : evT P pl (.call 92 [a0] false none H nx) =
  natF (Nat.succ nx) (fun nx =>
  optK (rdFieldAddr P 25 (some (eptrV a0)) 4) (fun x0 =>
  optK (rdLoad P H 22 (some x0)) (fun x1 =>
  optK (rdLen P #[22] 3 (some [x1])) (fun x2 =>
  optK (rdBin P H .eql 3 true (some x2) (some (.int .i64 0))) (fun x3 =>
  bvK x3 (fun b4 => bK b4 (.jump (l92_6 (eptrV a0) true H nx)) (optK (rdFieldAddr P 25 (some (eptrV a0)) 4) (fun x5 =>
  optK (rdLoad P H 22 (some x5)) (fun x6 =>
  optK (rdLen P #[22] 3 (some [x6])) (fun x7 =>
  optK (rdBin P H .rem 3 true (some x7) (some (.int .i64 2))) (fun x8 =>
  optK (rdBin P H .neq 3 true (some x8) (some (.int .i64 0))) (fun x9 =>
  bvK x9 (fun b10 => bK b10 (.jump (l92_6 (eptrV a0) true H nx)) (optK (rdFieldAddr P 25 (some (eptrV a0)) 5) (fun x11 =>
  optK (rdLoad P H 23 (some x11)) (fun x12 =>
  optK (rdLen P #[23] 3 (some [x12])) (fun x13 =>
  optK (rdFieldAddr P 25 (some (eptrV a0)) 4) (fun x14 =>
  optK (rdLoad P H 22 (some x14)) (fun x15 =>
  optK (rdLen P #[22] 3 (some [x15])) (fun x16 =>
  optK (rdBin P H .quo 3 true (some x16) (some (.int .i64 2))) (fun x17 =>
  optK (rdBin P H .add 3 true (some x17) (some (.int .i64 1))) (fun x18 =>
  optK (rdBin P H .neq 3 false (some x13) (some x18)) (fun x19 =>
  bvK x19 (fun b20 => .jump (l92_6 (eptrV a0) b20 H nx)) .bad) .bad) .bad) .bad) .bad) .bad) .bad) .bad) .bad) .bad)) .bad) .bad) .bad) .bad) .bad) .bad)) .bad) .bad) .bad) .bad) .bad) := by kernel_rfl
theorem q92_6 (t1 : Value) (t27 : Bool) (H : T OB) (nx : Nat) : evT P pl (l92_6 t1 t27 H nx) =
  bK t27
 (.ret ⟨.ret (.bool false), false, H, nx⟩)
 (effQ (efMakeMap H nx) (fun x0 H nx =>
  optK (rdFieldAddr P 25 (some t1) 4) (fun x1 =>
  optK (rdLoad P H 22 (some x1)) (fun x2 =>
  optK (rdLen P #[22] 3 (some [x2])) (fun x3 =>
  .jump (l92_13 x0 x2 x3 (.int .i64 0) H nx)) .bad) .bad) .bad)) := by kernel_rfl
theorem q92_13 (t3 : Value) (t30 : Value) (t31 : Value) (t32 : Value) (H : T OB) (nx : Nat) : evT P pl (l92_13 t3 t30 t31 t32 H nx) =
  optK (rdBin P H .lss 3 false (some t32) (some t31)) (fun x0 =>
  bvK x0 (fun b1 => bK b1
 (optK (rdIndexAddr P 22 (some t30) (some t32)) (fun x2 =>
  optK (rdLoad P H 3 (some x2)) (fun x3 =>
  optK (rdBin P H .lss 3 true (some x3) (some (.int .i64 0))) (fun x4 =>
  bvK x4 (fun b5 => bK b5 (.jump (l92_18 t3 t32 x3 t30 t31 t32 true H nx)) (optK (rdBin P H .rem 3 true (some t32) (some (.int .i64 2))) (fun x6 =>
  optK (rdBin P H .eql 3 true (some x6) (some (.int .i64 0))) (fun x7 =>
  bvK x7 (fun b8 => bK b8 (optK (rdLookup P H 109 (some t3) (some x3) false) (fun x9 =>
  bvK x9 (fun b10 => .jump (l92_18 t3 t32 x3 t30 t31 t32 b10 H nx)) .bad) .bad) (.jump (l92_18 t3 t32 x3 t30 t31 t32 false H nx))) .bad) .bad) .bad)) .bad) .bad) .bad) .bad)
 (.ret ⟨.ret (.bool true), false, H, nx⟩)) .bad) .bad := by kernel_rfl
theorem q92_18 (t3 : Value) (t4 : Value) (t5 : Value) (t30 : Value) (t31 : Value) (t32 : Value) (t48 : Bool) (H : T OB) (nx : Nat) : evT P pl (l92_18 t3 t4 t5 t30 t31 t32 t48 H nx) =
  bK t48
 (.ret ⟨.ret (.bool false), false, H, nx⟩)
 (optK (rdBin P H .rem 3 true (some t4) (some (.int .i64 2))) (fun x0 =>
  optK (rdBin P H .eql 3 true (some x0) (some (.int .i64 0))) (fun x1 =>
  bvK x1 (fun b2 => bK b2
 (effQ (efMapUpdate P H nx 109 (some t3) (some t5) (some (.bool true))) (fun x3 H nx =>
  optK (rdBin P H .add 3 true (some t32) (some (.int .i64 1))) (fun x4 =>
  .jump (l92_13 t3 t30 t31 x4 H nx)) .bad))
 (optK (rdBin P H .add 3 true (some t32) (some (.int .i64 1))) (fun x5 =>
  .jump (l92_13 t3 t30 t31 x5 H nx)) .bad)) .bad) .bad) .bad) := by kernel_rfl
/-! kindling/core.args -/
noncomputable def l93_18 (t3 : Value) (t4 : Bool) (H : T OB) (nx : Nat) : Cfg := .at ⟨93, 23, false, [], none, false⟩ (tmOf [(3, t3), (4, .bool t4)]) (todoOf P 93 18) H nx
noncomputable def l93_42 (t11 : Bool) (H : T OB) (nx : Nat) : Cfg := .at ⟨93, 23, false, [], none, false⟩ (tmOf [(11, .bool t11)]) (todoOf P 93 42) H nx
theorem q93 (a0 : Value) (H : T OB) (nx : Nat) : evT P pl (.call 93 [a0] false none H nx) =
  optK (rdBin P H .eql 3 true (some a0) (some (.int .i64 18))) (fun x0 =>
  bvK x0 (fun b1 => bK b1
 (.jump (l93_18 a0 b1 H nx))
 (optK (rdBin P H .eql 3 true (some a0) (some (.int .i64 12))) (fun x2 =>
  bvK x2 (fun b3 => bK b3
 (.jump (l93_18 a0 b3 H nx))
 (optK (rdBin P H .eql 3 true (some a0) (some (.int .i64 22))) (fun x4 =>
  bvK x4 (fun b5 => bK b5
 (.jump (l93_18 a0 b5 H nx))
 (optK (rdBin P H .eql 3 true (some a0) (some (.int .i64 33))) (fun x6 =>
  bvK x6 (fun b7 => bK b7
 (.jump (l93_18 a0 b7 H nx))
 (optK (rdBin P H .eql 3 true (some a0) (some (.int .i64 34))) (fun x8 =>
  bvK x8 (fun b9 => bK b9
 (.jump (l93_18 a0 b9 H nx))
 (optK (rdBin P H .eql 3 true (some a0) (some (.int .i64 36))) (fun x10 =>
  bvK x10 (fun b11 => .jump (l93_18 a0 b11 H nx)) .bad) .bad)) .bad) .bad)) .bad) .bad)) .bad) .bad)) .bad) .bad)) .bad) .bad := by kernel_rfl
theorem q93_18 (t3 : Value) (t4 : Bool) (H : T OB) (nx : Nat) : evT P pl (l93_18 t3 t4 H nx) =
  bK t4
 (.ret ⟨.ret (.int .i64 1), false, H, nx⟩)
 (optK (rdBin P H .eql 3 true (some t3) (some (.int .i64 7))) (fun x0 =>
  bvK x0 (fun b1 => bK b1
 (.jump (l93_42 b1 H nx))
 (optK (rdBin P H .eql 3 true (some t3) (some (.int .i64 8))) (fun x2 =>
  bvK x2 (fun b3 => bK b3
 (.jump (l93_42 b3 H nx))
 (optK (rdBin P H .eql 3 true (some t3) (some (.int .i64 9))) (fun x4 =>
  bvK x4 (fun b5 => bK b5
 (.jump (l93_42 b5 H nx))
 (optK (rdBin P H .eql 3 true (some t3) (some (.int .i64 10))) (fun x6 =>
  bvK x6 (fun b7 => bK b7
 (.jump (l93_42 b7 H nx))
 (optK (rdBin P H .eql 3 true (some t3) (some (.int .i64 11))) (fun x8 =>
  bvK x8 (fun b9 => bK b9
 (.jump (l93_42 b9 H nx))
 (optK (rdBin P H .eql 3 true (some t3) (some (.int .i64 13))) (fun x10 =>
  bvK x10 (fun b11 => bK b11
 (.jump (l93_42 b11 H nx))
 (optK (rdBin P H .eql 3 true (some t3) (some (.int .i64 14))) (fun x12 =>
  bvK x12 (fun b13 => bK b13
 (.jump (l93_42 b13 H nx))
 (optK (rdBin P H .eql 3 true (some t3) (some (.int .i64 15))) (fun x14 =>
  bvK x14 (fun b15 => bK b15
 (.jump (l93_42 b15 H nx))
 (optK (rdBin P H .eql 3 true (some t3) (some (.int .i64 21))) (fun x16 =>
  bvK x16 (fun b17 => bK b17
 (.jump (l93_42 b17 H nx))
 (optK (rdBin P H .eql 3 true (some t3) (some (.int .i64 32))) (fun x18 =>
  bvK x18 (fun b19 => bK b19
 (.jump (l93_42 b19 H nx))
 (optK (rdBin P H .eql 3 true (some t3) (some (.int .i64 35))) (fun x20 =>
  bvK x20 (fun b21 => .jump (l93_42 b21 H nx)) .bad) .bad)) .bad) .bad)) .bad) .bad)) .bad) .bad)) .bad) .bad)) .bad) .bad)) .bad) .bad)) .bad) .bad)) .bad) .bad)) .bad) .bad)) .bad) .bad) := by kernel_rfl
theorem q93_42 (t11 : Bool) (H : T OB) (nx : Nat) : evT P pl (l93_42 t11 H nx) =
  bK t11
 (.ret ⟨.ret (.int .i64 2), false, H, nx⟩)
 (.ret ⟨.ret (.int .i64 0), false, H, nx⟩) := by kernel_rfl
/-! kindling/kindlingref11.needs -/
noncomputable def l99_12 (t0 : Value) (t3 : Value) (t8 : Value) (t9 : Bool) (H : T OB) (nx : Nat) : Cfg := .at ⟨99, 55, false, [], none, false⟩ (tmOf [(0, t0), (3, t3), (8, t8), (9, .bool t9)]) (todoOf P 99 12) H nx
noncomputable def l99_36 (t0 : Value) (t3 : Value) (t41 : Bool) (H : T OB) (nx : Nat) : Cfg := .at ⟨99, 55, false, [], none, false⟩ (tmOf [(0, t0), (3, t3), (41, .bool t41)]) (todoOf P 99 36) H nx
noncomputable def l99_44 (t8 : Value) (t48 : Bool) (H : T OB) (nx : Nat) : Cfg := .at ⟨99, 55, false, [], none, false⟩ (tmOf [(8, t8), (48, .bool t48)]) (todoOf P 99 44) H nx
theorem q99 (a0 : Value) (a1 : Value) (H : T OB) (nx : Nat) : evT P pl (.call 99 [a0, a1] false none H nx) =
  natF (Nat.succ nx) (fun nx =>
  optK (rdFieldAddr P 125 (some (eptrV a1)) 0) (fun x0 =>
  optK (rdLoad P H 3 (some x0)) (fun x1 =>
  optK (rdBin P H .eql 3 true (some x1) (some (.int .i64 1))) (fun x2 =>
  bvK x2 (fun b3 => bK b3
 (.jump (l99_12 a0 (eptrV a1) x1 b3 H nx))
 (optK (rdBin P H .eql 3 true (some x1) (some (.int .i64 6))) (fun x4 =>
  bvK x4 (fun b5 => bK b5
 (.jump (l99_12 a0 (eptrV a1) x1 b5 H nx))
 (optK (rdBin P H .eql 3 true (some x1) (some (.int .i64 8))) (fun x6 =>
  bvK x6 (fun b7 => .jump (l99_12 a0 (eptrV a1) x1 b7 H nx)) .bad) .bad)) .bad) .bad)) .bad) .bad) .bad) .bad) := by kernel_rfl
theorem q99_12 (t0 : Value) (t3 : Value) (t8 : Value) (t9 : Bool) (H : T OB) (nx : Nat) : evT P pl (l99_12 t0 t3 t8 t9 H nx) =
  bK t9
 (.ret ⟨.ret (.tuple ⟨[(.int .i64 1), (.int .i64 0)]⟩), false, H, nx⟩)
 (optK (rdBin P H .eql 3 true (some t8) (some (.int .i64 2))) (fun x0 =>
  bvK x0 (fun b1 => bK b1
 (optK (rdFieldAddr P 125 (some t3) 2) (fun x2 =>
  optK (rdLoad P H 3 (some x2)) (fun x3 =>
  callQ (.call 90 [x3] false none H nx) (fun x4 H nx =>
  optK (rdBin P H .eql 3 true (some x4) (some (.int .i64 0))) (fun x5 =>
  bvK x5 (fun b6 => bK b6
 (.ret ⟨.ret (.tuple ⟨[(.int .i64 (-1)), (.int .i64 0)]⟩), false, H, nx⟩)
 (.ret ⟨.ret (.tuple ⟨[x4, (.int .i64 0)]⟩), false, H, nx⟩)) .bad) .bad) panK) .bad) .bad)
 (optK (rdBin P H .eql 3 true (some t8) (some (.int .i64 3))) (fun x7 =>
  bvK x7 (fun b8 => bK b8
 (optK (rdFieldAddr P 125 (some t3) 3) (fun x9 =>
  optK (rdLoad P H 64 (some x9)) (fun x10 =>
  optK (rdLen P #[64] 3 (some [x10])) (fun x11 =>
  optK (rdBin P H .eql 3 true (some x11) (some (.int .i64 0))) (fun x12 =>
  bvK x12 (fun b13 => bK b13
 (.ret ⟨.ret (.tuple ⟨[(.int .i64 (-1)), (.int .i64 0)]⟩), false, H, nx⟩)
 (optK (rdFieldAddr P 125 (some t3) 3) (fun x14 =>
  optK (rdLoad P H 64 (some x14)) (fun x15 =>
  optK (rdLen P #[64] 3 (some [x15])) (fun x16 =>
  .ret ⟨.ret (.tuple ⟨[x16, (.int .i64 0)]⟩), false, H, nx⟩) .bad) .bad) .bad)) .bad) .bad) .bad) .bad) .bad)
 (optK (rdBin P H .eql 3 true (some t8) (some (.int .i64 4))) (fun x17 =>
  bvK x17 (fun b18 => bK b18
 (optK (rdFieldAddr P 125 (some t3) 2) (fun x19 =>
  optK (rdLoad P H 3 (some x19)) (fun x20 =>
  optK (rdBin P H .lss 3 true (some x20) (some (.int .i64 0))) (fun x21 =>
  bvK x21 (fun b22 => bK b22 (.jump (l99_36 t0 t3 true H nx)) (optK (rdFieldAddr P 125 (some t3) 2) (fun x23 =>
  optK (rdLoad P H 3 (some x23)) (fun x24 =>
  optK (rdLen P #[30] 3 (some [t0])) (fun x25 =>
  optK (rdBin P H .geq 3 false (some x24) (some x25)) (fun x26 =>
  bvK x26 (fun b27 => .jump (l99_36 t0 t3 b27 H nx)) .bad) .bad) .bad) .bad) .bad)) .bad) .bad) .bad) .bad)
 (optK (rdBin P H .eql 3 true (some t8) (some (.int .i64 5))) (fun x28 =>
  bvK x28 (fun b29 => bK b29
 (.jump (l99_44 t8 b29 H nx))
 (optK (rdBin P H .eql 3 true (some t8) (some (.int .i64 7))) (fun x30 =>
  bvK x30 (fun b31 => .jump (l99_44 t8 b31 H nx)) .bad) .bad)) .bad) .bad)) .bad) .bad)) .bad) .bad)) .bad) .bad) := by kernel_rfl
theorem q99_36 (t0 : Value) (t3 : Value) (t41 : Bool) (H : T OB) (nx : Nat) : evT P pl (l99_36 t0 t3 t41 H nx) =
  bK t41
 (.ret ⟨.ret (.tuple ⟨[(.int .i64 (-1)), (.int .i64 0)]⟩), false, H, nx⟩)
 (optK (rdFieldAddr P 125 (some t3) 2) (fun x0 =>
  optK (rdLoad P H 3 (some x0)) (fun x1 =>
  optK (rdIndexAddr P 30 (some t0) (some x1)) (fun x2 =>
  optK (rdFieldAddr P 69 (some x2) 0) (fun x3 =>
  optK (rdLoad P H 3 (some x3)) (fun x4 =>
  .ret ⟨.ret (.tuple ⟨[x4, (.int .i64 0)]⟩), false, H, nx⟩) .bad) .bad) .bad) .bad) .bad) := by kernel_rfl
theorem q99_44 (t8 : Value) (t48 : Bool) (H : T OB) (nx : Nat) : evT P pl (l99_44 t8 t48 H nx) =
  bK t48
 (.ret ⟨.ret (.tuple ⟨[(.int .i64 2), (.int .i64 0)]⟩), false, H, nx⟩)
 (optK (rdBin P H .eql 3 true (some t8) (some (.int .i64 9))) (fun x0 =>
  bvK x0 (fun b1 => bK b1
 (.ret ⟨.ret (.tuple ⟨[(.int .i64 1), (.int .i64 2)]⟩), false, H, nx⟩)
 (optK (rdBin P H .eql 3 true (some t8) (some (.int .i64 10))) (fun x2 =>
  bvK x2 (fun b3 => bK b3
 (.ret ⟨.ret (.tuple ⟨[(.int .i64 0), (.int .i64 2)]⟩), false, H, nx⟩)
 (.ret ⟨.ret (.tuple ⟨[(.int .i64 (-1)), (.int .i64 0)]⟩), false, H, nx⟩)) .bad) .bad)) .bad) .bad) := by kernel_rfl
end
end Go.Proofs.YtfdgoenmdalphaaGreatDoor
