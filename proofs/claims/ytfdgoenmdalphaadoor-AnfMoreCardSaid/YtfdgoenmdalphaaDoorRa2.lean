/- What functions of the program say, as trees. -/
import Derived.Test.YtfdgoenmdalphaaDoorRa0
import Derived.KernelRfl
namespace Go.Proofs.YtfdgoenmdalphaaDoor
open Go.Ev Go.RowKit
noncomputable section
set_option linter.unusedVariables false
set_option maxHeartbeats 8000000
/-! kindling/core.Right -/
noncomputable def l18_11 (t9 : Value) (t10 : Value) (t11 : Value) (H : T OB) (nx : Nat) : Cfg := .at ⟨18, 19, false, [], none, false⟩ (tmOf [(9, t9), (10, t10), (11, t11)]) (todoOf P 18 11) H nx
theorem q18 (a0 : Value) (H : T OB) (nx : Nat) : evT P pl (.call 18 [a0] false none H nx) =
  frzV P 43 a0 H nx (fun x0 H nx =>
  natF (Nat.succ nx) (fun nx =>
  optK (rdLoad P H 43 (some (eptrV x0))) (fun x1 =>
  callQ (.call 30 [x1] false none H nx) (fun x2 H nx =>
  bvK x2 (fun b3 => optK (unV P .not (some (.bool b3))) (fun x4 =>
  bvK x4 (fun b5 => bK b5
 (.ret ⟨.ret (.bool false), false, H, nx⟩)
 (optK (rdFieldAddr P 43 (some (eptrV x0)) 5) (fun x6 =>
  optK (rdLoad P H 41 (some x6)) (fun x7 =>
  optK (rdLen P #[41] 3 (some [x7])) (fun x8 =>
  .jump (l18_11 x7 x8 (.int .i64 0) H nx)) .bad) .bad) .bad)) .bad) .bad) .bad) panK) .bad)) := by kernel_rfl
theorem q18_11 (t9 : Value) (t10 : Value) (t11 : Value) (H : T OB) (nx : Nat) : evT P pl (l18_11 t9 t10 t11 H nx) =
  optK (rdBin P H .lss 3 false (some t11) (some t10)) (fun x0 =>
  bvK x0 (fun b1 => bK b1
 (optK (rdIndexAddr P 41 (some t9) (some t11)) (fun x2 =>
  optK (rdLoad P H 43 (some x2)) (fun x3 =>
  effQ (efAlloc P H nx 43) (fun x4 H nx =>
  frSt P H nx 43 (some x4) x3 (fun H nx =>
  optK (rdLoad P H 43 (some (eptrV x3))) (fun x5 =>
  callQ (.call 18 [x5] false none H nx) (fun x6 H nx =>
  bvK x6 (fun b7 => optK (unV P .not (some (.bool b7))) (fun x8 =>
  bvK x8 (fun b9 => bK b9
 (.ret ⟨.ret (.bool false), false, H, nx⟩)
 (optK (rdBin P H .add 3 true (some t11) (some (.int .i64 1))) (fun x10 =>
  .jump (l18_11 t9 t10 x10 H nx)) .bad)) .bad) .bad) .bad) panK) .bad))) .bad) .bad)
 (.ret ⟨.ret (.bool true), false, H, nx⟩)) .bad) .bad := by kernel_rfl
/-! (*kindling/anf.reader).shape -/
noncomputable def l28_8 (t0 : Value) (t3 : Value) (t5 : Value) (t6 : Value) (t7 : Bool) (t8 : Bool) (H : T OB) (nx : Nat) : Cfg := .at ⟨28, 137, false, [], none, false⟩ (tmOf [(0, t0), (3, t3), (5, t5), (6, t6), (7, .bool t7), (8, .bool t8)]) (todoOf P 28 8) H nx
noncomputable def l28_54 (t3 : Value) (t5 : Value) (t6 : Value) (t7 : Bool) (t8 : Bool) (H : T OB) (nx : Nat) : Cfg := .at ⟨28, 137, false, [], none, false⟩ (tmOf [(3, t3), (5, t5), (6, t6), (7, .bool t7), (8, .bool t8)]) (todoOf P 28 54) H nx
noncomputable def l28_26 (t0 : Value) (t3 : Value) (t5 : Value) (t6 : Value) (t7 : Bool) (t8 : Bool) (H : T OB) (nx : Nat) : Cfg := .at ⟨28, 137, false, [], none, false⟩ (tmOf [(0, t0), (3, t3), (5, t5), (6, t6), (7, .bool t7), (8, .bool t8)]) (todoOf P 28 26) H nx
theorem q28 (a0 : Value) (a1 : Value) (H : T OB) (nx : Nat) : evT P pl (.call 28 [a0, a1] false none H nx) =
  natF (Nat.succ nx) (fun nx =>
  optK (rdFieldAddr P 62 (some (eptrV a1)) 2) (fun x0 =>
  optK (rdLoad P H 3 (some x0)) (fun x1 =>
  optK (rdBin P H .eql 3 true (some x1) (some (.int .i64 0))) (fun x2 =>
  bvK x2 (fun b3 => optK (rdFieldAddr P 62 (some (eptrV a1)) 1) (fun x4 =>
  optK (rdLoad P H 3 (some x4)) (fun x5 =>
  optK (rdBin P H .geq 3 true (some x5) (some (.int .i64 0))) (fun x6 =>
  bvK x6 (fun b7 => bK b7 (optK (rdFieldAddr P 62 (some (eptrV a1)) 1) (fun x8 =>
  optK (rdLoad P H 3 (some x8)) (fun x9 =>
  optK (rdNil (some a0)) (fun x10 =>
  optK (rdFieldAddr P 58 (some x10) 1) (fun x11 =>
  optK (rdFieldAddr P 33 (some x11) 1) (fun x12 =>
  optK (rdLoad P H 3 (some x12)) (fun x13 =>
  optK (rdBin P H .lss 3 false (some x9) (some x13)) (fun x14 =>
  bvK x14 (fun b15 => .jump (l28_8 a0 (eptrV a1) (.int .i64 1) (.int .i64 0) b3 b15 H nx)) .bad) .bad) .bad) .bad) .bad) .bad) .bad) .bad) (.jump (l28_8 a0 (eptrV a1) (.int .i64 1) (.int .i64 0) b3 false H nx))) .bad) .bad) .bad) .bad) .bad) .bad) .bad) .bad) := by kernel_rfl
theorem q28_8 (t0 : Value) (t3 : Value) (t5 : Value) (t6 : Value) (t7 : Bool) (t8 : Bool) (H : T OB) (nx : Nat) : evT P pl (l28_8 t0 t3 t5 t6 t7 t8 H nx) =
  optK (rdFieldAddr P 62 (some t3) 0) (fun x0 =>
  optK (rdLoad P H 3 (some x0)) (fun x1 =>
  optK (rdBin P H .eql 3 true (some x1) (some (.int .i64 1))) (fun x2 =>
  bvK x2 (fun b3 => bK b3
 (.jump (l28_54 t3 t5 t6 t7 t8 H nx))
 (optK (rdBin P H .eql 3 true (some x1) (some (.int .i64 2))) (fun x4 =>
  bvK x4 (fun b5 => bK b5
 (optK (rdFieldAddr P 62 (some t3) 2) (fun x6 =>
  optK (rdLoad P H 3 (some x6)) (fun x7 =>
  optK (rdFieldAddr P 62 (some t3) 2) (fun x8 =>
  optK (rdLoad P H 3 (some x8)) (fun x9 =>
  callQ (.call 43 [x7] false none H nx) (fun x10 H nx =>
  bK (optK (rdLoad P H 3 (some x8)) (fun u => vEq u x9) false && true) (callQ (.call 43 [x9] false none H nx) (fun x11 H nx =>
  optK (rdBin P H .gtr 3 true (some x11) (some (.int .i64 0))) (fun x12 =>
  bvK x12 (fun b13 => .jump (l28_54 t3 x10 t6 b13 t8 H nx)) .bad) .bad) panK) .bad) panK) .bad) .bad) .bad) .bad)
 (optK (rdBin P H .eql 3 true (some x1) (some (.int .i64 3))) (fun x14 =>
  bvK x14 (fun b15 => bK b15
 (optK (rdFieldAddr P 62 (some t3) 3) (fun x16 =>
  optK (rdLoad P H 27 (some x16)) (fun x17 =>
  optK (rdLen P #[27] 3 (some [x17])) (fun x18 =>
  optK (bltV P .max #[3, 3] 3 (some [(.int .i64 1), x18])) (fun x19 =>
  .jump (l28_54 t3 x19 t6 t7 t8 H nx)) .bad) .bad) .bad) .bad)
 (optK (rdBin P H .eql 3 true (some x1) (some (.int .i64 4))) (fun x20 =>
  bvK x20 (fun b21 => bK b21
 (optK (rdFieldAddr P 62 (some t3) 2) (fun x22 =>
  optK (rdLoad P H 3 (some x22)) (fun x23 =>
  optK (rdBin P H .geq 3 true (some x23) (some (.int .i64 0))) (fun x24 =>
  bvK x24 (fun b25 => bK b25 (optK (rdFieldAddr P 62 (some t3) 2) (fun x26 =>
  optK (rdLoad P H 3 (some x26)) (fun x27 =>
  optK (rdNil (some t0)) (fun x28 =>
  optK (rdFieldAddr P 58 (some x28) 0) (fun x29 =>
  optK (rdLoad P H 22 (some x29)) (fun x30 =>
  optK (rdLen P #[22] 3 (some [x30])) (fun x31 =>
  optK (rdBin P H .lss 3 false (some x27) (some x31)) (fun x32 =>
  bvK x32 (fun b33 => .jump (l28_26 t0 t3 t5 t6 b33 t8 H nx)) .bad) .bad) .bad) .bad) .bad) .bad) .bad) .bad) (.jump (l28_26 t0 t3 t5 t6 false t8 H nx))) .bad) .bad) .bad) .bad)
 (optK (rdBin P H .eql 3 true (some x1) (some (.int .i64 5))) (fun x34 =>
  bvK x34 (fun b35 => bK b35
 (optK (rdFieldAddr P 62 (some t3) 2) (fun x36 =>
  optK (rdLoad P H 3 (some x36)) (fun x37 =>
  optK (rdBin P H .geq 3 true (some x37) (some (.int .i64 0))) (fun x38 =>
  bvK x38 (fun b39 => optK (rdFieldAddr P 62 (some t3) 1) (fun x40 =>
  optK (rdLoad P H 3 (some x40)) (fun x41 =>
  optK (rdBin P H .eql 3 true (some x41) (some (.int .i64 0))) (fun x42 =>
  bvK x42 (fun b43 => .jump (l28_54 t3 (.int .i64 2) t6 b39 b43 H nx)) .bad) .bad) .bad) .bad) .bad) .bad) .bad) .bad)
 (optK (rdBin P H .eql 3 true (some x1) (some (.int .i64 6))) (fun x44 =>
  bvK x44 (fun b45 => bK b45
 (optK (rdFieldAddr P 62 (some t3) 2) (fun x46 =>
  optK (rdLoad P H 3 (some x46)) (fun x47 =>
  optK (rdBin P H .geq 3 true (some x47) (some (.int .i64 0))) (fun x48 =>
  bvK x48 (fun b49 => bK b49 (optK (rdFieldAddr P 62 (some t3) 2) (fun x50 =>
  optK (rdLoad P H 3 (some x50)) (fun x51 =>
  optK (rdBin P H .lss 3 true (some x51) (some (.int .i64 16384))) (fun x52 =>
  bvK x52 (fun b53 => .jump (l28_54 t3 t5 t6 b53 t8 H nx)) .bad) .bad) .bad) .bad) (.jump (l28_54 t3 t5 t6 false t8 H nx))) .bad) .bad) .bad) .bad)
 (optK (rdBin P H .eql 3 true (some x1) (some (.int .i64 7))) (fun x54 =>
  bvK x54 (fun b55 => bK b55
 (.jump (l28_54 t3 (.int .i64 2) t6 t7 t8 H nx))
 (optK (rdBin P H .eql 3 true (some x1) (some (.int .i64 8))) (fun x56 =>
  bvK x56 (fun b57 => bK b57
 (optK (rdFieldAddr P 62 (some t3) 2) (fun x58 =>
  optK (rdLoad P H 3 (some x58)) (fun x59 =>
  optK (rdBin P H .geq 3 true (some x59) (some (.int .i64 0))) (fun x60 =>
  bvK x60 (fun b61 => bK b61 (optK (rdFieldAddr P 62 (some t3) 2) (fun x62 =>
  optK (rdLoad P H 3 (some x62)) (fun x63 =>
  optK (rdBin P H .lss 3 true (some x63) (some (.int .i64 1024))) (fun x64 =>
  bvK x64 (fun b65 => optK (rdFieldAddr P 62 (some t3) 1) (fun x66 =>
  optK (rdLoad P H 3 (some x66)) (fun x67 =>
  optK (rdBin P H .eql 3 true (some x67) (some (.int .i64 0))) (fun x68 =>
  bvK x68 (fun b69 => .jump (l28_54 t3 t5 t6 b65 b69 H nx)) .bad) .bad) .bad) .bad) .bad) .bad) .bad) .bad) (optK (rdFieldAddr P 62 (some t3) 1) (fun x70 =>
  optK (rdLoad P H 3 (some x70)) (fun x71 =>
  optK (rdBin P H .eql 3 true (some x71) (some (.int .i64 0))) (fun x72 =>
  bvK x72 (fun b73 => .jump (l28_54 t3 t5 t6 false b73 H nx)) .bad) .bad) .bad) .bad)) .bad) .bad) .bad) .bad)
 (optK (rdBin P H .eql 3 true (some x1) (some (.int .i64 9))) (fun x74 =>
  bvK x74 (fun b75 => bK b75
 (.jump (l28_54 t3 t5 (.int .i64 2) t7 t8 H nx))
 (optK (rdBin P H .eql 3 true (some x1) (some (.int .i64 10))) (fun x76 =>
  bvK x76 (fun b77 => bK b77
 (optK (rdFieldAddr P 62 (some t3) 2) (fun x78 =>
  optK (rdLoad P H 3 (some x78)) (fun x79 =>
  optK (rdBin P H .geq 3 true (some x79) (some (.int .i64 0))) (fun x80 =>
  bvK x80 (fun b81 => bK b81 (optK (rdFieldAddr P 62 (some t3) 2) (fun x82 =>
  optK (rdLoad P H 3 (some x82)) (fun x83 =>
  optK (rdNil (some t0)) (fun x84 =>
  optK (rdFieldAddr P 58 (some x84) 1) (fun x85 =>
  optK (rdFieldAddr P 33 (some x85) 1) (fun x86 =>
  optK (rdLoad P H 3 (some x86)) (fun x87 =>
  optK (rdBin P H .lss 3 false (some x83) (some x87)) (fun x88 =>
  bvK x88 (fun b89 => .jump (l28_54 t3 (.int .i64 0) (.int .i64 2) b89 t8 H nx)) .bad) .bad) .bad) .bad) .bad) .bad) .bad) .bad) (.jump (l28_54 t3 (.int .i64 0) (.int .i64 2) false t8 H nx))) .bad) .bad) .bad) .bad)
 (.ret ⟨.ret (.bool false), false, H, nx⟩)) .bad) .bad)) .bad) .bad)) .bad) .bad)) .bad) .bad)) .bad) .bad)) .bad) .bad)) .bad) .bad)) .bad) .bad)) .bad) .bad)) .bad) .bad) .bad) .bad := by kernel_rfl
theorem q28_54 (t3 : Value) (t5 : Value) (t6 : Value) (t7 : Bool) (t8 : Bool) (H : T OB) (nx : Nat) : evT P pl (l28_54 t3 t5 t6 t7 t8 H nx) =
  bK t7 (bK t8 (optK (rdFieldAddr P 62 (some t3) 3) (fun x0 =>
  optK (rdLoad P H 27 (some x0)) (fun x1 =>
  optK (rdLen P #[27] 3 (some [x1])) (fun x2 =>
  optK (rdBin P H .eql 3 false (some x2) (some t5)) (fun x3 =>
  bvK x3 (fun b4 => bK b4 (optK (rdFieldAddr P 62 (some t3) 4) (fun x5 =>
  optK (rdLoad P H 29 (some x5)) (fun x6 =>
  optK (rdLen P #[29] 3 (some [x6])) (fun x7 =>
  optK (rdBin P H .eql 3 false (some x7) (some t6)) (fun x8 =>
  bvK x8 (fun b9 => .ret ⟨.ret (.bool b9), false, H, nx⟩) .bad) .bad) .bad) .bad) .bad) (.ret ⟨.ret (.bool false), false, H, nx⟩)) .bad) .bad) .bad) .bad) .bad) (.ret ⟨.ret (.bool false), false, H, nx⟩)) (.ret ⟨.ret (.bool false), false, H, nx⟩) := by kernel_rfl
theorem q28_26 (t0 : Value) (t3 : Value) (t5 : Value) (t6 : Value) (t7 : Bool) (t8 : Bool) (H : T OB) (nx : Nat) : evT P pl (l28_26 t0 t3 t5 t6 t7 t8 H nx) =
  bK t7
 (optK (rdNil (some t0)) (fun x0 =>
  optK (rdFieldAddr P 58 (some x0) 0) (fun x1 =>
  optK (rdLoad P H 22 (some x1)) (fun x2 =>
  optK (rdFieldAddr P 62 (some t3) 2) (fun x3 =>
  optK (rdLoad P H 3 (some x3)) (fun x4 =>
  optK (rdIndexAddr P 22 (some x2) (some x4)) (fun x5 =>
  optK (rdFieldAddr P 33 (some x5) 0) (fun x6 =>
  optK (rdLoad P H 3 (some x6)) (fun x7 =>
  bK t7 (bK t8 (optK (rdFieldAddr P 62 (some t3) 3) (fun x8 =>
  optK (rdLoad P H 27 (some x8)) (fun x9 =>
  optK (rdLen P #[27] 3 (some [x9])) (fun x10 =>
  optK (rdBin P H .eql 3 false (some x10) (some x7)) (fun x11 =>
  bvK x11 (fun b12 => bK b12 (optK (rdFieldAddr P 62 (some t3) 4) (fun x13 =>
  optK (rdLoad P H 29 (some x13)) (fun x14 =>
  optK (rdLen P #[29] 3 (some [x14])) (fun x15 =>
  optK (rdBin P H .eql 3 false (some x15) (some t6)) (fun x16 =>
  bvK x16 (fun b17 => .ret ⟨.ret (.bool b17), false, H, nx⟩) .bad) .bad) .bad) .bad) .bad) (.ret ⟨.ret (.bool false), false, H, nx⟩)) .bad) .bad) .bad) .bad) .bad) (.ret ⟨.ret (.bool false), false, H, nx⟩)) (.ret ⟨.ret (.bool false), false, H, nx⟩)) .bad) .bad) .bad) .bad) .bad) .bad) .bad) .bad)
 (bK t7 (bK t8 (optK (rdFieldAddr P 62 (some t3) 3) (fun x18 =>
  optK (rdLoad P H 27 (some x18)) (fun x19 =>
  optK (rdLen P #[27] 3 (some [x19])) (fun x20 =>
  optK (rdBin P H .eql 3 false (some x20) (some t5)) (fun x21 =>
  bvK x21 (fun b22 => bK b22 (optK (rdFieldAddr P 62 (some t3) 4) (fun x23 =>
  optK (rdLoad P H 29 (some x23)) (fun x24 =>
  optK (rdLen P #[29] 3 (some [x24])) (fun x25 =>
  optK (rdBin P H .eql 3 false (some x25) (some t6)) (fun x26 =>
  bvK x26 (fun b27 => .ret ⟨.ret (.bool b27), false, H, nx⟩) .bad) .bad) .bad) .bad) .bad) (.ret ⟨.ret (.bool false), false, H, nx⟩)) .bad) .bad) .bad) .bad) .bad) (.ret ⟨.ret (.bool false), false, H, nx⟩)) (.ret ⟨.ret (.bool false), false, H, nx⟩)) := by kernel_rfl
/-! (*kindling/anf.reader).atoms -/
noncomputable def l29_7 (t0 : Value) (t2 : Value) (t9 : Value) (t10 : Value) (t11 : Value) (H : T OB) (nx : Nat) : Cfg := .at ⟨29, 21, false, [], none, false⟩ (tmOf [(0, t0), (2, t2), (9, t9), (10, t10), (11, t11)]) (todoOf P 29 7) H nx
theorem q29 (a0 : Value) (a1 : Value) (a2 : Value) (H : T OB) (nx : Nat) : evT P pl (.call 29 [a0, a1, a2] false none H nx) =
  optK (rdLen P #[27] 3 (some [a1])) (fun x0 =>
  .jump (l29_7 a0 a2 a1 x0 (.int .i64 0) H nx)) .bad := by kernel_rfl
theorem q29_7 (t0 : Value) (t2 : Value) (t9 : Value) (t10 : Value) (t11 : Value) (H : T OB) (nx : Nat) : evT P pl (l29_7 t0 t2 t9 t10 t11 H nx) =
  optK (rdBin P H .lss 3 false (some t11) (some t10)) (fun x0 =>
  bvK x0 (fun b1 => bK b1
 (optK (rdIndexAddr P 27 (some t9) (some t11)) (fun x2 =>
  optK (rdLoad P H 26 (some x2)) (fun x3 =>
  effQ (efAlloc P H nx 26) (fun x4 H nx =>
  frSt P H nx 26 (some x4) x3 (fun H nx =>
  optK (rdLoad P H 26 (some (eptrV x3))) (fun x5 =>
  callQ (.call 44 [t0, x5, t2] false none H nx) (fun x6 H nx =>
  bvK x6 (fun b7 => optK (unV P .not (some (.bool b7))) (fun x8 =>
  bvK x8 (fun b9 => bK b9
 (.ret ⟨.ret (.bool false), false, H, nx⟩)
 (optK (rdBin P H .add 3 true (some t11) (some (.int .i64 1))) (fun x10 =>
  .jump (l29_7 t0 t2 t9 t10 x10 H nx)) .bad)) .bad) .bad) .bad) panK) .bad))) .bad) .bad)
 (.ret ⟨.ret (.bool true), false, H, nx⟩)) .bad) .bad := by kernel_rfl
/-! kindling/core.bare -/
noncomputable def l30_30 (t1 : Value) (t3 : Bool) (t124 : Bool) (H : T OB) (nx : Nat) : Cfg := .at ⟨30, 233, false, [], none, false⟩ (tmOf [(1, t1), (3, .bool t3), (124, .bool t124)]) (todoOf P 30 30) H nx
noncomputable def l30_54 (t1 : Value) (t3 : Bool) (t126 : Value) (t165 : Bool) (H : T OB) (nx : Nat) : Cfg := .at ⟨30, 233, false, [], none, false⟩ (tmOf [(1, t1), (3, .bool t3), (126, t126), (165, .bool t165)]) (todoOf P 30 54) H nx
theorem q30 (a0 : Value) (H : T OB) (nx : Nat) : evT P pl (.call 30 [a0] false none H nx) =
  natF (Nat.succ nx) (fun nx =>
  optK (rdFieldAddr P 43 (some (eptrV a0)) 1) (fun x0 =>
  optK (rdLoad P H 3 (some x0)) (fun x1 =>
  optK (rdBin P H .eql 3 true (some x1) (some (.int .i64 0))) (fun x2 =>
  bvK x2 (fun b3 => optK (rdFieldAddr P 43 (some (eptrV a0)) 2) (fun x4 =>
  optK (rdLoad P H 2 (some x4)) (fun x5 =>
  optK (rdBin P H .eql 2 true (some x5) (some (.int .i64 0))) (fun x6 =>
  bvK x6 (fun b7 => optK (rdFieldAddr P 43 (some (eptrV a0)) 3) (fun x8 =>
  optK (rdLoad P H 9 (some x8)) (fun x9 =>
  optK (rdBin P H .eql 9 true (some x9) (some (.string ⟨⟨[]⟩⟩))) (fun x10 =>
  bvK x10 (fun b11 => optK (rdFieldAddr P 43 (some (eptrV a0)) 4) (fun x12 =>
  optK (rdLoad P H 40 (some x12)) (fun x13 =>
  optK (rdLen P #[40] 3 (some [x13])) (fun x14 =>
  optK (rdBin P H .eql 3 true (some x14) (some (.int .i64 0))) (fun x15 =>
  bvK x15 (fun b16 => optK (rdFieldAddr P 43 (some (eptrV a0)) 0) (fun x17 =>
  optK (rdLoad P H 3 (some x17)) (fun x18 =>
  optK (rdBin P H .eql 3 true (some x18) (some (.int .i64 1))) (fun x19 =>
  bvK x19 (fun b20 => bK b20
 (bK b3 (bK b11 (bK b16 (optK (rdFieldAddr P 43 (some (eptrV a0)) 2) (fun x21 =>
  optK (rdLoad P H 2 (some x21)) (fun x22 =>
  callQ (.call 45 [x22] false none H nx) (fun x23 H nx =>
  bvK x23 (fun b24 => bK b24 (optK (rdFieldAddr P 43 (some (eptrV a0)) 5) (fun x25 =>
  optK (rdLoad P H 41 (some x25)) (fun x26 =>
  optK (rdLen P #[41] 3 (some [x26])) (fun x27 =>
  optK (rdBin P H .eql 3 true (some x27) (some (.int .i64 0))) (fun x28 =>
  bvK x28 (fun b29 => .ret ⟨.ret (.bool b29), false, H, nx⟩) .bad) .bad) .bad) .bad) .bad) (.ret ⟨.ret (.bool false), false, H, nx⟩)) .bad) panK) .bad) .bad) (.ret ⟨.ret (.bool false), false, H, nx⟩)) (.ret ⟨.ret (.bool false), false, H, nx⟩)) (.ret ⟨.ret (.bool false), false, H, nx⟩))
 (optK (rdBin P H .eql 3 true (some x18) (some (.int .i64 2))) (fun x30 =>
  bvK x30 (fun b31 => bK b31
 (bK b3 (bK b7 (bK b16 (optK (rdFieldAddr P 43 (some (eptrV a0)) 5) (fun x32 =>
  optK (rdLoad P H 41 (some x32)) (fun x33 =>
  optK (rdLen P #[41] 3 (some [x33])) (fun x34 =>
  optK (rdBin P H .eql 3 true (some x34) (some (.int .i64 0))) (fun x35 =>
  bvK x35 (fun b36 => .ret ⟨.ret (.bool b36), false, H, nx⟩) .bad) .bad) .bad) .bad) .bad) (.ret ⟨.ret (.bool false), false, H, nx⟩)) (.ret ⟨.ret (.bool false), false, H, nx⟩)) (.ret ⟨.ret (.bool false), false, H, nx⟩))
 (optK (rdBin P H .eql 3 true (some x18) (some (.int .i64 3))) (fun x37 =>
  bvK x37 (fun b38 => bK b38
 (optK (rdFieldAddr P 43 (some (eptrV a0)) 1) (fun x39 =>
  optK (rdLoad P H 3 (some x39)) (fun x40 =>
  optK (rdBin P H .geq 3 true (some x40) (some (.int .i64 0))) (fun x41 =>
  bvK x41 (fun b42 => bK b42 (bK b7 (bK b11 (bK b16 (optK (rdFieldAddr P 43 (some (eptrV a0)) 5) (fun x43 =>
  optK (rdLoad P H 41 (some x43)) (fun x44 =>
  optK (rdLen P #[41] 3 (some [x44])) (fun x45 =>
  optK (rdBin P H .eql 3 true (some x45) (some (.int .i64 0))) (fun x46 =>
  bvK x46 (fun b47 => .ret ⟨.ret (.bool b47), false, H, nx⟩) .bad) .bad) .bad) .bad) .bad) (.ret ⟨.ret (.bool false), false, H, nx⟩)) (.ret ⟨.ret (.bool false), false, H, nx⟩)) (.ret ⟨.ret (.bool false), false, H, nx⟩)) (.ret ⟨.ret (.bool false), false, H, nx⟩)) .bad) .bad) .bad) .bad)
 (optK (rdBin P H .eql 3 true (some x18) (some (.int .i64 4))) (fun x48 =>
  bvK x48 (fun b49 => bK b49
 (optK (rdFieldAddr P 43 (some (eptrV a0)) 1) (fun x50 =>
  optK (rdLoad P H 3 (some x50)) (fun x51 =>
  optK (rdBin P H .geq 3 true (some x51) (some (.int .i64 0))) (fun x52 =>
  bvK x52 (fun b53 => bK b53 (optK (rdFieldAddr P 43 (some (eptrV a0)) 1) (fun x54 =>
  optK (rdLoad P H 3 (some x54)) (fun x55 =>
  optK (rdBin P H .lss 3 true (some x55) (some (.int .i64 1024))) (fun x56 =>
  bvK x56 (fun b57 => bK b57 (bK b7 (bK b11 (bK b16 (optK (rdFieldAddr P 43 (some (eptrV a0)) 5) (fun x58 =>
  optK (rdLoad P H 41 (some x58)) (fun x59 =>
  optK (rdLen P #[41] 3 (some [x59])) (fun x60 =>
  optK (rdBin P H .eql 3 true (some x60) (some (.int .i64 0))) (fun x61 =>
  bvK x61 (fun b62 => .ret ⟨.ret (.bool b62), false, H, nx⟩) .bad) .bad) .bad) .bad) .bad) (.ret ⟨.ret (.bool false), false, H, nx⟩)) (.ret ⟨.ret (.bool false), false, H, nx⟩)) (.ret ⟨.ret (.bool false), false, H, nx⟩)) (.ret ⟨.ret (.bool false), false, H, nx⟩)) .bad) .bad) .bad) .bad) (.ret ⟨.ret (.bool false), false, H, nx⟩)) .bad) .bad) .bad) .bad)
 (optK (rdBin P H .eql 3 true (some x18) (some (.int .i64 7))) (fun x63 =>
  bvK x63 (fun b64 => bK b64
 (bK b3 (bK b7 (bK b11 (optK (rdLoad P H 43 (some (eptrV a0))) (fun x65 =>
  callQ (.call 46 [x65] false none H nx) (fun x66 H nx =>
  bvK x66 (fun b67 => .ret ⟨.ret (.bool b67), false, H, nx⟩) .bad) panK) .bad) (.ret ⟨.ret (.bool false), false, H, nx⟩)) (.ret ⟨.ret (.bool false), false, H, nx⟩)) (.ret ⟨.ret (.bool false), false, H, nx⟩))
 (optK (unV P .not (some (.bool b7))) (fun x68 =>
  bvK x68 (fun b69 => bK b69 (.jump (l30_30 (eptrV a0) b3 true H nx)) (optK (unV P .not (some (.bool b11))) (fun x70 =>
  bvK x70 (fun b71 => bK b71 (.jump (l30_30 (eptrV a0) b3 true H nx)) (optK (unV P .not (some (.bool b16))) (fun x72 =>
  bvK x72 (fun b73 => .jump (l30_30 (eptrV a0) b3 b73 H nx)) .bad) .bad)) .bad) .bad)) .bad) .bad)) .bad) .bad)) .bad) .bad)) .bad) .bad)) .bad) .bad)) .bad) .bad) .bad) .bad) .bad) .bad) .bad) .bad) .bad) .bad) .bad) .bad) .bad) .bad) .bad) .bad) .bad) .bad) .bad) .bad) .bad) := by kernel_rfl
theorem q30_30 (t1 : Value) (t3 : Bool) (t124 : Bool) (H : T OB) (nx : Nat) : evT P pl (l30_30 t1 t3 t124 H nx) =
  bK t124
 (.ret ⟨.ret (.bool false), false, H, nx⟩)
 (optK (rdFieldAddr P 43 (some t1) 0) (fun x0 =>
  optK (rdLoad P H 3 (some x0)) (fun x1 =>
  optK (rdBin P H .eql 3 true (some x1) (some (.int .i64 5))) (fun x2 =>
  bvK x2 (fun b3 => bK b3
 (bK t3 (optK (rdFieldAddr P 43 (some t1) 5) (fun x4 =>
  optK (rdLoad P H 41 (some x4)) (fun x5 =>
  optK (rdLen P #[41] 3 (some [x5])) (fun x6 =>
  optK (rdBin P H .gtr 3 true (some x6) (some (.int .i64 0))) (fun x7 =>
  bvK x7 (fun b8 => .ret ⟨.ret (.bool b8), false, H, nx⟩) .bad) .bad) .bad) .bad) .bad) (.ret ⟨.ret (.bool false), false, H, nx⟩))
 (optK (rdBin P H .eql 3 true (some x1) (some (.int .i64 6))) (fun x9 =>
  bvK x9 (fun b10 => bK b10
 (optK (rdFieldAddr P 43 (some t1) 1) (fun x11 =>
  optK (rdLoad P H 3 (some x11)) (fun x12 =>
  optK (rdBin P H .geq 3 true (some x12) (some (.int .i64 0))) (fun x13 =>
  bvK x13 (fun b14 => bK b14 (optK (rdFieldAddr P 43 (some t1) 5) (fun x15 =>
  optK (rdLoad P H 41 (some x15)) (fun x16 =>
  optK (rdLen P #[41] 3 (some [x16])) (fun x17 =>
  optK (rdBin P H .eql 3 true (some x17) (some (.int .i64 1))) (fun x18 =>
  bvK x18 (fun b19 => .ret ⟨.ret (.bool b19), false, H, nx⟩) .bad) .bad) .bad) .bad) .bad) (.ret ⟨.ret (.bool false), false, H, nx⟩)) .bad) .bad) .bad) .bad)
 (optK (rdBin P H .eql 3 true (some x1) (some (.int .i64 8))) (fun x20 =>
  bvK x20 (fun b21 => bK b21
 (bK t3 (optK (rdFieldAddr P 43 (some t1) 5) (fun x22 =>
  optK (rdLoad P H 41 (some x22)) (fun x23 =>
  optK (rdLen P #[41] 3 (some [x23])) (fun x24 =>
  optK (rdBin P H .eql 3 true (some x24) (some (.int .i64 2))) (fun x25 =>
  bvK x25 (fun b26 => .ret ⟨.ret (.bool b26), false, H, nx⟩) .bad) .bad) .bad) .bad) .bad) (.ret ⟨.ret (.bool false), false, H, nx⟩))
 (optK (rdBin P H .eql 3 true (some x1) (some (.int .i64 9))) (fun x27 =>
  bvK x27 (fun b28 => bK b28
 (bK t3 (optK (rdFieldAddr P 43 (some t1) 5) (fun x29 =>
  optK (rdLoad P H 41 (some x29)) (fun x30 =>
  optK (rdLen P #[41] 3 (some [x30])) (fun x31 =>
  optK (rdBin P H .eql 3 true (some x31) (some (.int .i64 3))) (fun x32 =>
  bvK x32 (fun b33 => .ret ⟨.ret (.bool b33), false, H, nx⟩) .bad) .bad) .bad) .bad) .bad) (.ret ⟨.ret (.bool false), false, H, nx⟩))
 (optK (rdBin P H .eql 3 true (some x1) (some (.int .i64 10))) (fun x34 =>
  bvK x34 (fun b35 => bK b35
 (.jump (l30_54 t1 t3 x1 b35 H nx))
 (optK (rdBin P H .eql 3 true (some x1) (some (.int .i64 14))) (fun x36 =>
  bvK x36 (fun b37 => .jump (l30_54 t1 t3 x1 b37 H nx)) .bad) .bad)) .bad) .bad)) .bad) .bad)) .bad) .bad)) .bad) .bad)) .bad) .bad) .bad) .bad) := by kernel_rfl
theorem q30_54 (t1 : Value) (t3 : Bool) (t126 : Value) (t165 : Bool) (H : T OB) (nx : Nat) : evT P pl (l30_54 t1 t3 t126 t165 H nx) =
  bK t165
 (optK (rdFieldAddr P 43 (some t1) 1) (fun x0 =>
  optK (rdLoad P H 3 (some x0)) (fun x1 =>
  optK (rdBin P H .geq 3 true (some x1) (some (.int .i64 0))) (fun x2 =>
  bvK x2 (fun b3 => bK b3 (optK (rdFieldAddr P 43 (some t1) 5) (fun x4 =>
  optK (rdLoad P H 41 (some x4)) (fun x5 =>
  optK (rdLen P #[41] 3 (some [x5])) (fun x6 =>
  optK (rdBin P H .eql 3 true (some x6) (some (.int .i64 2))) (fun x7 =>
  bvK x7 (fun b8 => .ret ⟨.ret (.bool b8), false, H, nx⟩) .bad) .bad) .bad) .bad) .bad) (.ret ⟨.ret (.bool false), false, H, nx⟩)) .bad) .bad) .bad) .bad)
 (optK (rdBin P H .eql 3 true (some t126) (some (.int .i64 11))) (fun x9 =>
  bvK x9 (fun b10 => bK b10
 (optK (rdFieldAddr P 43 (some t1) 1) (fun x11 =>
  optK (rdLoad P H 3 (some x11)) (fun x12 =>
  optK (rdBin P H .geq 3 true (some x12) (some (.int .i64 0))) (fun x13 =>
  bvK x13 (fun b14 => bK b14 (optK (rdFieldAddr P 43 (some t1) 1) (fun x15 =>
  optK (rdLoad P H 3 (some x15)) (fun x16 =>
  optK (rdBin P H .lss 3 true (some x16) (some (.int .i64 16384))) (fun x17 =>
  bvK x17 (fun b18 => bK b18 (optK (rdFieldAddr P 43 (some t1) 5) (fun x19 =>
  optK (rdLoad P H 41 (some x19)) (fun x20 =>
  optK (rdLen P #[41] 3 (some [x20])) (fun x21 =>
  optK (rdBin P H .eql 3 true (some x21) (some (.int .i64 1))) (fun x22 =>
  bvK x22 (fun b23 => .ret ⟨.ret (.bool b23), false, H, nx⟩) .bad) .bad) .bad) .bad) .bad) (.ret ⟨.ret (.bool false), false, H, nx⟩)) .bad) .bad) .bad) .bad) (.ret ⟨.ret (.bool false), false, H, nx⟩)) .bad) .bad) .bad) .bad)
 (optK (rdBin P H .eql 3 true (some t126) (some (.int .i64 12))) (fun x24 =>
  bvK x24 (fun b25 => bK b25
 (optK (rdFieldAddr P 43 (some t1) 1) (fun x26 =>
  optK (rdLoad P H 3 (some x26)) (fun x27 =>
  callQ (.call 47 [x27] false none H nx) (fun x28 H nx =>
  optK (rdBin P H .gtr 3 true (some x28) (some (.int .i64 0))) (fun x29 =>
  bvK x29 (fun b30 => bK b30 (optK (rdFieldAddr P 43 (some t1) 5) (fun x31 =>
  optK (rdLoad P H 41 (some x31)) (fun x32 =>
  optK (rdLen P #[41] 3 (some [x32])) (fun x33 =>
  optK (rdFieldAddr P 43 (some t1) 1) (fun x34 =>
  optK (rdLoad P H 3 (some x34)) (fun x35 =>
  callQ (.call 47 [x35] false none H nx) (fun x36 H nx =>
  bK (optK (rdLoad P H 41 (some x31)) (fun u => vEq u x32) false && true) (optK (rdBin P H .eql 3 false (some x33) (some x36)) (fun x37 =>
  bvK x37 (fun b38 => .ret ⟨.ret (.bool b38), false, H, nx⟩) .bad) .bad) .bad) panK) .bad) .bad) .bad) .bad) .bad) (bK (true && true) (.ret ⟨.ret (.bool false), false, H, nx⟩) .bad)) .bad) .bad) panK) .bad) .bad)
 (optK (rdBin P H .eql 3 true (some t126) (some (.int .i64 13))) (fun x39 =>
  bvK x39 (fun b40 => bK b40
 (bK t3 (optK (rdFieldAddr P 43 (some t1) 5) (fun x41 =>
  optK (rdLoad P H 41 (some x41)) (fun x42 =>
  optK (rdLen P #[41] 3 (some [x42])) (fun x43 =>
  optK (rdBin P H .eql 3 true (some x43) (some (.int .i64 1))) (fun x44 =>
  bvK x44 (fun b45 => .ret ⟨.ret (.bool b45), false, H, nx⟩) .bad) .bad) .bad) .bad) .bad) (.ret ⟨.ret (.bool false), false, H, nx⟩))
 (optK (rdBin P H .eql 3 true (some t126) (some (.int .i64 15))) (fun x46 =>
  bvK x46 (fun b47 => bK b47
 (optK (rdFieldAddr P 43 (some t1) 1) (fun x48 =>
  optK (rdLoad P H 3 (some x48)) (fun x49 =>
  optK (rdBin P H .geq 3 true (some x49) (some (.int .i64 0))) (fun x50 =>
  bvK x50 (fun b51 => bK b51 (optK (rdFieldAddr P 43 (some t1) 1) (fun x52 =>
  optK (rdLoad P H 3 (some x52)) (fun x53 =>
  optK (rdBin P H .lss 3 true (some x53) (some (.int .i64 1024))) (fun x54 =>
  bvK x54 (fun b55 => bK b55 (optK (rdFieldAddr P 43 (some t1) 5) (fun x56 =>
  optK (rdLoad P H 41 (some x56)) (fun x57 =>
  optK (rdLen P #[41] 3 (some [x57])) (fun x58 =>
  optK (rdBin P H .eql 3 true (some x58) (some (.int .i64 1))) (fun x59 =>
  bvK x59 (fun b60 => .ret ⟨.ret (.bool b60), false, H, nx⟩) .bad) .bad) .bad) .bad) .bad) (.ret ⟨.ret (.bool false), false, H, nx⟩)) .bad) .bad) .bad) .bad) (.ret ⟨.ret (.bool false), false, H, nx⟩)) .bad) .bad) .bad) .bad)
 (.ret ⟨.ret (.bool false), false, H, nx⟩)) .bad) .bad)) .bad) .bad)) .bad) .bad)) .bad) .bad) := by kernel_rfl
/-! kindling/anf.takes -/
noncomputable def l43_7 (t0 : Value) (t3 : Value) (H : T OB) (nx : Nat) : Cfg := .at ⟨43, 29, false, [], none, false⟩ (tmOf [(0, t0), (3, t3)]) (todoOf P 43 7) H nx
noncomputable def l43_15 (t0 : Value) (t3 : Value) (t4 : Value) (t16 : Value) (t17 : Value) (H : T OB) (nx : Nat) : Cfg := .at ⟨43, 29, false, [], none, false⟩ (tmOf [(0, t0), (3, t3), (4, t4), (16, t16), (17, t17)]) (todoOf P 43 15) H nx
theorem q43 (a0 : Value) (H : T OB) (nx : Nat) : evT P pl (.call 43 [a0] false none H nx) =
  .jump (l43_7 a0 (.int .i64 1) H nx) := by kernel_rfl
theorem q43_7 (t0 : Value) (t3 : Value) (H : T OB) (nx : Nat) : evT P pl (l43_7 t0 t3 H nx) =
  optK (rdBin P H .leq 3 true (some t3) (some (.int .i64 2))) (fun x0 =>
  bvK x0 (fun b1 => bK b1
 (effQ (efMakeSlice P H nx 41 (some t3) (some t3)) (fun x2 H nx =>
  optK (rdBuild P 43 (some [(0, (.int .i64 12)), (1, t0), (5, x2)])) (fun x3 =>
  effQ (efAlloc P H nx 43) (fun x4 H nx =>
  frSt P H nx 43 (some x4) x3 (fun H nx =>
  optK (rdFieldAddr P 43 (some (eptrV x3)) 5) (fun x5 =>
  optK (rdLoad P H 41 (some x5)) (fun x6 =>
  optK (rdLen P #[41] 3 (some [x6])) (fun x7 =>
  .jump (l43_15 t0 t3 (eptrV x3) x7 (.int .i64 0) H nx)) .bad) .bad) .bad))) .bad))
 (.ret ⟨.ret (.int .i64 0), false, H, nx⟩)) .bad) .bad := by kernel_rfl
theorem q43_15 (t0 : Value) (t3 : Value) (t4 : Value) (t16 : Value) (t17 : Value) (H : T OB) (nx : Nat) : evT P pl (l43_15 t0 t3 t4 t16 t17 H nx) =
  optK (rdBin P H .lss 3 false (some t17) (some t16)) (fun x0 =>
  bvK x0 (fun b1 => bK b1
 (optK (rdFieldAddr P 43 (some t4) 5) (fun x2 =>
  optK (rdLoad P H 41 (some x2)) (fun x3 =>
  optK (rdIndexAddr P 41 (some x3) (some t17)) (fun x4 =>
  optK (rdFieldAddr P 43 (some x4) 0) (fun x5 =>
  effQ (efStore P H nx 3 (some x5) (some (.int .i64 1))) (fun x6 H nx =>
  optK (rdBin P H .add 3 true (some t17) (some (.int .i64 1))) (fun x7 =>
  .jump (l43_15 t0 t3 t4 t16 x7 H nx)) .bad)) .bad) .bad) .bad) .bad)
 (optK (rdLoad P H 43 (some t4)) (fun x8 =>
  callQ (.call 18 [x8] false none H nx) (fun x9 H nx =>
  bvK x9 (fun b10 => bK b10
 (.ret ⟨.ret t3, false, H, nx⟩)
 (optK (rdBin P H .add 3 true (some t3) (some (.int .i64 1))) (fun x11 =>
  .jump (l43_7 t0 x11 H nx)) .bad)) .bad) panK) .bad)) .bad) .bad := by kernel_rfl
end
end Go.Proofs.YtfdgoenmdalphaaDoor
