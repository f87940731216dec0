/- What functions of the program say, as trees. -/
import Derived.Test.YtfdgoenmdalphaaGreatDoorRa0
import Derived.KernelRfl
namespace Go.Proofs.YtfdgoenmdalphaaGreatDoor
open Go.Ev Go.RowKit
noncomputable section
set_option linter.unusedVariables false
set_option maxHeartbeats 8000000
/-! kindling/core.bare -/
noncomputable def l56_30 (t1 : Value) (t3 : Bool) (t124 : Bool) (H : T OB) (nx : Nat) : Cfg := .at ⟨56, 233, false, [], none, false⟩ (tmOf [(1, t1), (3, .bool t3), (124, .bool t124)]) (todoOf P 56 30) H nx
noncomputable def l56_54 (t1 : Value) (t3 : Bool) (t126 : Value) (t165 : Bool) (H : T OB) (nx : Nat) : Cfg := .at ⟨56, 233, false, [], none, false⟩ (tmOf [(1, t1), (3, .bool t3), (126, t126), (165, .bool t165)]) (todoOf P 56 54) H nx
theorem q56 (a0 : Value) (H : T OB) (nx : Nat) : evT P pl (.call 56 [a0] false none H nx) =
  natF (Nat.succ nx) (fun nx =>
  optK (rdFieldAddr P 25 (some (eptrV a0)) 1) (fun x0 =>
  optK (rdLoad P H 3 (some x0)) (fun x1 =>
  optK (rdBin P H .eql 3 true (some x1) (some (.int .i64 0))) (fun x2 =>
  bvK x2 (fun b3 => optK (rdFieldAddr P 25 (some (eptrV a0)) 2) (fun x4 =>
  optK (rdLoad P H 2 (some x4)) (fun x5 =>
  optK (rdBin P H .eql 2 true (some x5) (some (.int .i64 0))) (fun x6 =>
  bvK x6 (fun b7 => optK (rdFieldAddr P 25 (some (eptrV a0)) 3) (fun x8 =>
  optK (rdLoad P H 9 (some x8)) (fun x9 =>
  optK (rdBin P H .eql 9 true (some x9) (some (.string ⟨⟨[]⟩⟩))) (fun x10 =>
  bvK x10 (fun b11 => optK (rdFieldAddr P 25 (some (eptrV a0)) 4) (fun x12 =>
  optK (rdLoad P H 22 (some x12)) (fun x13 =>
  optK (rdLen P #[22] 3 (some [x13])) (fun x14 =>
  optK (rdBin P H .eql 3 true (some x14) (some (.int .i64 0))) (fun x15 =>
  bvK x15 (fun b16 => optK (rdFieldAddr P 25 (some (eptrV a0)) 0) (fun x17 =>
  optK (rdLoad P H 3 (some x17)) (fun x18 =>
  optK (rdBin P H .eql 3 true (some x18) (some (.int .i64 1))) (fun x19 =>
  bvK x19 (fun b20 => bK b20
 (bK b3 (bK b11 (bK b16 (optK (rdFieldAddr P 25 (some (eptrV a0)) 2) (fun x21 =>
  optK (rdLoad P H 2 (some x21)) (fun x22 =>
  callQ (.call 91 [x22] false none H nx) (fun x23 H nx =>
  bvK x23 (fun b24 => bK b24 (optK (rdFieldAddr P 25 (some (eptrV a0)) 5) (fun x25 =>
  optK (rdLoad P H 23 (some x25)) (fun x26 =>
  optK (rdLen P #[23] 3 (some [x26])) (fun x27 =>
  optK (rdBin P H .eql 3 true (some x27) (some (.int .i64 0))) (fun x28 =>
  bvK x28 (fun b29 => .ret ⟨.ret (.bool b29), false, H, nx⟩) .bad) .bad) .bad) .bad) .bad) (.ret ⟨.ret (.bool false), false, H, nx⟩)) .bad) panK) .bad) .bad) (.ret ⟨.ret (.bool false), false, H, nx⟩)) (.ret ⟨.ret (.bool false), false, H, nx⟩)) (.ret ⟨.ret (.bool false), false, H, nx⟩))
 (optK (rdBin P H .eql 3 true (some x18) (some (.int .i64 2))) (fun x30 =>
  bvK x30 (fun b31 => bK b31
 (bK b3 (bK b7 (bK b16 (optK (rdFieldAddr P 25 (some (eptrV a0)) 5) (fun x32 =>
  optK (rdLoad P H 23 (some x32)) (fun x33 =>
  optK (rdLen P #[23] 3 (some [x33])) (fun x34 =>
  optK (rdBin P H .eql 3 true (some x34) (some (.int .i64 0))) (fun x35 =>
  bvK x35 (fun b36 => .ret ⟨.ret (.bool b36), false, H, nx⟩) .bad) .bad) .bad) .bad) .bad) (.ret ⟨.ret (.bool false), false, H, nx⟩)) (.ret ⟨.ret (.bool false), false, H, nx⟩)) (.ret ⟨.ret (.bool false), false, H, nx⟩))
 (optK (rdBin P H .eql 3 true (some x18) (some (.int .i64 3))) (fun x37 =>
  bvK x37 (fun b38 => bK b38
 (optK (rdFieldAddr P 25 (some (eptrV a0)) 1) (fun x39 =>
  optK (rdLoad P H 3 (some x39)) (fun x40 =>
  optK (rdBin P H .geq 3 true (some x40) (some (.int .i64 0))) (fun x41 =>
  bvK x41 (fun b42 => bK b42 (bK b7 (bK b11 (bK b16 (optK (rdFieldAddr P 25 (some (eptrV a0)) 5) (fun x43 =>
  optK (rdLoad P H 23 (some x43)) (fun x44 =>
  optK (rdLen P #[23] 3 (some [x44])) (fun x45 =>
  optK (rdBin P H .eql 3 true (some x45) (some (.int .i64 0))) (fun x46 =>
  bvK x46 (fun b47 => .ret ⟨.ret (.bool b47), false, H, nx⟩) .bad) .bad) .bad) .bad) .bad) (.ret ⟨.ret (.bool false), false, H, nx⟩)) (.ret ⟨.ret (.bool false), false, H, nx⟩)) (.ret ⟨.ret (.bool false), false, H, nx⟩)) (.ret ⟨.ret (.bool false), false, H, nx⟩)) .bad) .bad) .bad) .bad)
 (optK (rdBin P H .eql 3 true (some x18) (some (.int .i64 4))) (fun x48 =>
  bvK x48 (fun b49 => bK b49
 (optK (rdFieldAddr P 25 (some (eptrV a0)) 1) (fun x50 =>
  optK (rdLoad P H 3 (some x50)) (fun x51 =>
  optK (rdBin P H .geq 3 true (some x51) (some (.int .i64 0))) (fun x52 =>
  bvK x52 (fun b53 => bK b53 (optK (rdFieldAddr P 25 (some (eptrV a0)) 1) (fun x54 =>
  optK (rdLoad P H 3 (some x54)) (fun x55 =>
  optK (rdBin P H .lss 3 true (some x55) (some (.int .i64 1024))) (fun x56 =>
  bvK x56 (fun b57 => bK b57 (bK b7 (bK b11 (bK b16 (optK (rdFieldAddr P 25 (some (eptrV a0)) 5) (fun x58 =>
  optK (rdLoad P H 23 (some x58)) (fun x59 =>
  optK (rdLen P #[23] 3 (some [x59])) (fun x60 =>
  optK (rdBin P H .eql 3 true (some x60) (some (.int .i64 0))) (fun x61 =>
  bvK x61 (fun b62 => .ret ⟨.ret (.bool b62), false, H, nx⟩) .bad) .bad) .bad) .bad) .bad) (.ret ⟨.ret (.bool false), false, H, nx⟩)) (.ret ⟨.ret (.bool false), false, H, nx⟩)) (.ret ⟨.ret (.bool false), false, H, nx⟩)) (.ret ⟨.ret (.bool false), false, H, nx⟩)) .bad) .bad) .bad) .bad) (.ret ⟨.ret (.bool false), false, H, nx⟩)) .bad) .bad) .bad) .bad)
 (optK (rdBin P H .eql 3 true (some x18) (some (.int .i64 7))) (fun x63 =>
  bvK x63 (fun b64 => bK b64
 (bK b3 (bK b7 (bK b11 (optK (rdLoad P H 25 (some (eptrV a0))) (fun x65 =>
  callQ (.call 92 [x65] false none H nx) (fun x66 H nx =>
  bvK x66 (fun b67 => .ret ⟨.ret (.bool b67), false, H, nx⟩) .bad) panK) .bad) (.ret ⟨.ret (.bool false), false, H, nx⟩)) (.ret ⟨.ret (.bool false), false, H, nx⟩)) (.ret ⟨.ret (.bool false), false, H, nx⟩))
 (optK (unV P .not (some (.bool b7))) (fun x68 =>
  bvK x68 (fun b69 => bK b69 (.jump (l56_30 (eptrV a0) b3 true H nx)) (optK (unV P .not (some (.bool b11))) (fun x70 =>
  bvK x70 (fun b71 => bK b71 (.jump (l56_30 (eptrV a0) b3 true H nx)) (optK (unV P .not (some (.bool b16))) (fun x72 =>
  bvK x72 (fun b73 => .jump (l56_30 (eptrV a0) b3 b73 H nx)) .bad) .bad)) .bad) .bad)) .bad) .bad)) .bad) .bad)) .bad) .bad)) .bad) .bad)) .bad) .bad)) .bad) .bad) .bad) .bad) .bad) .bad) .bad) .bad) .bad) .bad) .bad) .bad) .bad) .bad) .bad) .bad) .bad) .bad) .bad) .bad) .bad) := by kernel_rfl
theorem q56_30 (t1 : Value) (t3 : Bool) (t124 : Bool) (H : T OB) (nx : Nat) : evT P pl (l56_30 t1 t3 t124 H nx) =
  bK t124
 (.ret ⟨.ret (.bool false), false, H, nx⟩)
 (optK (rdFieldAddr P 25 (some t1) 0) (fun x0 =>
  optK (rdLoad P H 3 (some x0)) (fun x1 =>
  optK (rdBin P H .eql 3 true (some x1) (some (.int .i64 5))) (fun x2 =>
  bvK x2 (fun b3 => bK b3
 (bK t3 (optK (rdFieldAddr P 25 (some t1) 5) (fun x4 =>
  optK (rdLoad P H 23 (some x4)) (fun x5 =>
  optK (rdLen P #[23] 3 (some [x5])) (fun x6 =>
  optK (rdBin P H .gtr 3 true (some x6) (some (.int .i64 0))) (fun x7 =>
  bvK x7 (fun b8 => .ret ⟨.ret (.bool b8), false, H, nx⟩) .bad) .bad) .bad) .bad) .bad) (.ret ⟨.ret (.bool false), false, H, nx⟩))
 (optK (rdBin P H .eql 3 true (some x1) (some (.int .i64 6))) (fun x9 =>
  bvK x9 (fun b10 => bK b10
 (optK (rdFieldAddr P 25 (some t1) 1) (fun x11 =>
  optK (rdLoad P H 3 (some x11)) (fun x12 =>
  optK (rdBin P H .geq 3 true (some x12) (some (.int .i64 0))) (fun x13 =>
  bvK x13 (fun b14 => bK b14 (optK (rdFieldAddr P 25 (some t1) 5) (fun x15 =>
  optK (rdLoad P H 23 (some x15)) (fun x16 =>
  optK (rdLen P #[23] 3 (some [x16])) (fun x17 =>
  optK (rdBin P H .eql 3 true (some x17) (some (.int .i64 1))) (fun x18 =>
  bvK x18 (fun b19 => .ret ⟨.ret (.bool b19), false, H, nx⟩) .bad) .bad) .bad) .bad) .bad) (.ret ⟨.ret (.bool false), false, H, nx⟩)) .bad) .bad) .bad) .bad)
 (optK (rdBin P H .eql 3 true (some x1) (some (.int .i64 8))) (fun x20 =>
  bvK x20 (fun b21 => bK b21
 (bK t3 (optK (rdFieldAddr P 25 (some t1) 5) (fun x22 =>
  optK (rdLoad P H 23 (some x22)) (fun x23 =>
  optK (rdLen P #[23] 3 (some [x23])) (fun x24 =>
  optK (rdBin P H .eql 3 true (some x24) (some (.int .i64 2))) (fun x25 =>
  bvK x25 (fun b26 => .ret ⟨.ret (.bool b26), false, H, nx⟩) .bad) .bad) .bad) .bad) .bad) (.ret ⟨.ret (.bool false), false, H, nx⟩))
 (optK (rdBin P H .eql 3 true (some x1) (some (.int .i64 9))) (fun x27 =>
  bvK x27 (fun b28 => bK b28
 (bK t3 (optK (rdFieldAddr P 25 (some t1) 5) (fun x29 =>
  optK (rdLoad P H 23 (some x29)) (fun x30 =>
  optK (rdLen P #[23] 3 (some [x30])) (fun x31 =>
  optK (rdBin P H .eql 3 true (some x31) (some (.int .i64 3))) (fun x32 =>
  bvK x32 (fun b33 => .ret ⟨.ret (.bool b33), false, H, nx⟩) .bad) .bad) .bad) .bad) .bad) (.ret ⟨.ret (.bool false), false, H, nx⟩))
 (optK (rdBin P H .eql 3 true (some x1) (some (.int .i64 10))) (fun x34 =>
  bvK x34 (fun b35 => bK b35
 (.jump (l56_54 t1 t3 x1 b35 H nx))
 (optK (rdBin P H .eql 3 true (some x1) (some (.int .i64 14))) (fun x36 =>
  bvK x36 (fun b37 => .jump (l56_54 t1 t3 x1 b37 H nx)) .bad) .bad)) .bad) .bad)) .bad) .bad)) .bad) .bad)) .bad) .bad)) .bad) .bad) .bad) .bad) := by kernel_rfl
theorem q56_54 (t1 : Value) (t3 : Bool) (t126 : Value) (t165 : Bool) (H : T OB) (nx : Nat) : evT P pl (l56_54 t1 t3 t126 t165 H nx) =
  bK t165
 (optK (rdFieldAddr P 25 (some t1) 1) (fun x0 =>
  optK (rdLoad P H 3 (some x0)) (fun x1 =>
  optK (rdBin P H .geq 3 true (some x1) (some (.int .i64 0))) (fun x2 =>
  bvK x2 (fun b3 => bK b3 (optK (rdFieldAddr P 25 (some t1) 5) (fun x4 =>
  optK (rdLoad P H 23 (some x4)) (fun x5 =>
  optK (rdLen P #[23] 3 (some [x5])) (fun x6 =>
  optK (rdBin P H .eql 3 true (some x6) (some (.int .i64 2))) (fun x7 =>
  bvK x7 (fun b8 => .ret ⟨.ret (.bool b8), false, H, nx⟩) .bad) .bad) .bad) .bad) .bad) (.ret ⟨.ret (.bool false), false, H, nx⟩)) .bad) .bad) .bad) .bad)
 (optK (rdBin P H .eql 3 true (some t126) (some (.int .i64 11))) (fun x9 =>
  bvK x9 (fun b10 => bK b10
 (optK (rdFieldAddr P 25 (some t1) 1) (fun x11 =>
  optK (rdLoad P H 3 (some x11)) (fun x12 =>
  optK (rdBin P H .geq 3 true (some x12) (some (.int .i64 0))) (fun x13 =>
  bvK x13 (fun b14 => bK b14 (optK (rdFieldAddr P 25 (some t1) 1) (fun x15 =>
  optK (rdLoad P H 3 (some x15)) (fun x16 =>
  optK (rdBin P H .lss 3 true (some x16) (some (.int .i64 16384))) (fun x17 =>
  bvK x17 (fun b18 => bK b18 (optK (rdFieldAddr P 25 (some t1) 5) (fun x19 =>
  optK (rdLoad P H 23 (some x19)) (fun x20 =>
  optK (rdLen P #[23] 3 (some [x20])) (fun x21 =>
  optK (rdBin P H .eql 3 true (some x21) (some (.int .i64 1))) (fun x22 =>
  bvK x22 (fun b23 => .ret ⟨.ret (.bool b23), false, H, nx⟩) .bad) .bad) .bad) .bad) .bad) (.ret ⟨.ret (.bool false), false, H, nx⟩)) .bad) .bad) .bad) .bad) (.ret ⟨.ret (.bool false), false, H, nx⟩)) .bad) .bad) .bad) .bad)
 (optK (rdBin P H .eql 3 true (some t126) (some (.int .i64 12))) (fun x24 =>
  bvK x24 (fun b25 => bK b25
 (optK (rdFieldAddr P 25 (some t1) 1) (fun x26 =>
  optK (rdLoad P H 3 (some x26)) (fun x27 =>
  callQ (.call 93 [x27] false none H nx) (fun x28 H nx =>
  optK (rdBin P H .gtr 3 true (some x28) (some (.int .i64 0))) (fun x29 =>
  bvK x29 (fun b30 => bK b30 (optK (rdFieldAddr P 25 (some t1) 5) (fun x31 =>
  optK (rdLoad P H 23 (some x31)) (fun x32 =>
  optK (rdLen P #[23] 3 (some [x32])) (fun x33 =>
  optK (rdFieldAddr P 25 (some t1) 1) (fun x34 =>
  optK (rdLoad P H 3 (some x34)) (fun x35 =>
  callQ (.call 93 [x35] false none H nx) (fun x36 H nx =>
  bK (optK (rdLoad P H 23 (some x31)) (fun u => vEq u x32) false && true) (optK (rdBin P H .eql 3 false (some x33) (some x36)) (fun x37 =>
  bvK x37 (fun b38 => .ret ⟨.ret (.bool b38), false, H, nx⟩) .bad) .bad) .bad) panK) .bad) .bad) .bad) .bad) .bad) (bK (true && true) (.ret ⟨.ret (.bool false), false, H, nx⟩) .bad)) .bad) .bad) panK) .bad) .bad)
 (optK (rdBin P H .eql 3 true (some t126) (some (.int .i64 13))) (fun x39 =>
  bvK x39 (fun b40 => bK b40
 (bK t3 (optK (rdFieldAddr P 25 (some t1) 5) (fun x41 =>
  optK (rdLoad P H 23 (some x41)) (fun x42 =>
  optK (rdLen P #[23] 3 (some [x42])) (fun x43 =>
  optK (rdBin P H .eql 3 true (some x43) (some (.int .i64 1))) (fun x44 =>
  bvK x44 (fun b45 => .ret ⟨.ret (.bool b45), false, H, nx⟩) .bad) .bad) .bad) .bad) .bad) (.ret ⟨.ret (.bool false), false, H, nx⟩))
 (optK (rdBin P H .eql 3 true (some t126) (some (.int .i64 15))) (fun x46 =>
  bvK x46 (fun b47 => bK b47
 (optK (rdFieldAddr P 25 (some t1) 1) (fun x48 =>
  optK (rdLoad P H 3 (some x48)) (fun x49 =>
  optK (rdBin P H .geq 3 true (some x49) (some (.int .i64 0))) (fun x50 =>
  bvK x50 (fun b51 => bK b51 (optK (rdFieldAddr P 25 (some t1) 1) (fun x52 =>
  optK (rdLoad P H 3 (some x52)) (fun x53 =>
  optK (rdBin P H .lss 3 true (some x53) (some (.int .i64 1024))) (fun x54 =>
  bvK x54 (fun b55 => bK b55 (optK (rdFieldAddr P 25 (some t1) 5) (fun x56 =>
  optK (rdLoad P H 23 (some x56)) (fun x57 =>
  optK (rdLen P #[23] 3 (some [x57])) (fun x58 =>
  optK (rdBin P H .eql 3 true (some x58) (some (.int .i64 1))) (fun x59 =>
  bvK x59 (fun b60 => .ret ⟨.ret (.bool b60), false, H, nx⟩) .bad) .bad) .bad) .bad) .bad) (.ret ⟨.ret (.bool false), false, H, nx⟩)) .bad) .bad) .bad) .bad) (.ret ⟨.ret (.bool false), false, H, nx⟩)) .bad) .bad) .bad) .bad)
 (.ret ⟨.ret (.bool false), false, H, nx⟩)) .bad) .bad)) .bad) .bad)) .bad) .bad)) .bad) .bad) := by kernel_rfl
/-! kindling/kindlingref11.rightStep -/
noncomputable def l61_8 (t0 : Value) (t1 : Value) (t6 : Value) (t41 : Bool) (H : T OB) (nx : Nat) : Cfg := .at ⟨61, 116, false, [], none, false⟩ (tmOf [(0, t0), (1, t1), (6, t6), (41, .bool t41)]) (todoOf P 61 8) H nx
noncomputable def l61_12 (t0 : Value) (t1 : Value) (t6 : Value) (t49 : Bool) (H : T OB) (nx : Nat) : Cfg := .at ⟨61, 116, false, [], none, false⟩ (tmOf [(0, t0), (1, t1), (6, t6), (49, .bool t49)]) (todoOf P 61 12) H nx
noncomputable def l61_16 (t0 : Value) (t1 : Value) (t6 : Value) (t80 : Bool) (H : T OB) (nx : Nat) : Cfg := .at ⟨61, 116, false, [], none, false⟩ (tmOf [(0, t0), (1, t1), (6, t6), (80, .bool t80)]) (todoOf P 61 16) H nx
noncomputable def l61_28 (t0 : Value) (t1 : Value) (t6 : Value) (t82 : Value) (t83 : Bool) (H : T OB) (nx : Nat) : Cfg := .at ⟨61, 116, false, [], none, false⟩ (tmOf [(0, t0), (1, t1), (6, t6), (82, t82), (83, .bool t83)]) (todoOf P 61 28) H nx
theorem q61 (a0 : Value) (a1 : Value) (a2 : Value) (a3 : Value) (H : T OB) (nx : Nat) : evT P pl (.call 61 [a0, a1, a2, a3] false none H nx) =
  natF (Nat.succ nx) (fun nx =>
  optK (rdLoad P H 125 (some (eptrV a2))) (fun x0 =>
  callQ (.call 99 [a0, x0] false none H nx) (fun x1 H nx =>
  optK (rdExtract (some x1) 0) (fun x2 =>
  optK (rdExtract (some x1) 1) (fun x3 =>
  optK (rdBin P H .lss 3 true (some x2) (some (.int .i64 0))) (fun x4 =>
  bvK x4 (fun b5 => bK b5 (.jump (l61_8 a0 a1 (eptrV a2) true H nx)) (optK (rdFieldAddr P 125 (some (eptrV a2)) 3) (fun x6 =>
  optK (rdLoad P H 64 (some x6)) (fun x7 =>
  optK (rdLen P #[64] 3 (some [x7])) (fun x8 =>
  optK (rdBin P H .neq 3 false (some x2) (some x8)) (fun x9 =>
  bvK x9 (fun b10 => bK b10 (.jump (l61_8 a0 a1 (eptrV a2) true H nx)) (optK (rdFieldAddr P 125 (some (eptrV a2)) 4) (fun x11 =>
  optK (rdLoad P H 65 (some x11)) (fun x12 =>
  optK (rdLen P #[65] 3 (some [x12])) (fun x13 =>
  optK (rdBin P H .neq 3 false (some x3) (some x13)) (fun x14 =>
  bvK x14 (fun b15 => bK b15 (.jump (l61_8 a0 a1 (eptrV a2) true H nx)) (optK (rdFieldAddr P 125 (some (eptrV a2)) 3) (fun x16 =>
  optK (rdLoad P H 64 (some x16)) (fun x17 =>
  callQ (.call 63 [a0, a1, x17, a3] false none H nx) (fun x18 H nx =>
  bvK x18 (fun b19 => optK (unV P .not (some (.bool b19))) (fun x20 =>
  bvK x20 (fun b21 => .jump (l61_8 a0 a1 (eptrV a2) b21 H nx)) .bad) .bad) .bad) panK) .bad) .bad)) .bad) .bad) .bad) .bad) .bad)) .bad) .bad) .bad) .bad) .bad)) .bad) .bad) .bad) .bad) panK) .bad) := by kernel_rfl
theorem q61_8 (t0 : Value) (t1 : Value) (t6 : Value) (t41 : Bool) (H : T OB) (nx : Nat) : evT P pl (l61_8 t0 t1 t6 t41 H nx) =
  bK t41
 (.ret ⟨.ret (.bool false), false, H, nx⟩)
 (optK (rdFieldAddr P 125 (some t6) 0) (fun x0 =>
  optK (rdLoad P H 3 (some x0)) (fun x1 =>
  optK (rdBin P H .eql 3 true (some x1) (some (.int .i64 5))) (fun x2 =>
  bvK x2 (fun b3 => bK b3 (.jump (l61_12 t0 t1 t6 true H nx)) (optK (rdFieldAddr P 125 (some t6) 0) (fun x4 =>
  optK (rdLoad P H 3 (some x4)) (fun x5 =>
  optK (rdBin P H .eql 3 true (some x5) (some (.int .i64 8))) (fun x6 =>
  bvK x6 (fun b7 => .jump (l61_12 t0 t1 t6 b7 H nx)) .bad) .bad) .bad) .bad)) .bad) .bad) .bad) .bad) := by kernel_rfl
theorem q61_12 (t0 : Value) (t1 : Value) (t6 : Value) (t49 : Bool) (H : T OB) (nx : Nat) : evT P pl (l61_12 t0 t1 t6 t49 H nx) =
  bK t49
 (optK (rdFieldAddr P 125 (some t6) 1) (fun x0 =>
  optK (rdLoad P H 3 (some x0)) (fun x1 =>
  optK (rdBin P H .eql 3 true (some x1) (some (.int .i64 0))) (fun x2 =>
  bvK x2 (fun b3 => bK b3 (optK (rdFieldAddr P 125 (some t6) 2) (fun x4 =>
  optK (rdLoad P H 3 (some x4)) (fun x5 =>
  optK (rdBin P H .geq 3 true (some x5) (some (.int .i64 0))) (fun x6 =>
  bvK x6 (fun b7 => bK b7 (optK (rdFieldAddr P 125 (some t6) 0) (fun x8 =>
  optK (rdLoad P H 3 (some x8)) (fun x9 =>
  optK (rdBin P H .eql 3 true (some x9) (some (.int .i64 5))) (fun x10 =>
  bvK x10 (fun b11 => bK b11 (.ret ⟨.ret (.bool true), false, H, nx⟩) (optK (rdFieldAddr P 125 (some t6) 2) (fun x12 =>
  optK (rdLoad P H 3 (some x12)) (fun x13 =>
  optK (rdBin P H .lss 3 true (some x13) (some (.int .i64 1024))) (fun x14 =>
  bvK x14 (fun b15 => .ret ⟨.ret (.bool b15), false, H, nx⟩) .bad) .bad) .bad) .bad)) .bad) .bad) .bad) .bad) (.ret ⟨.ret (.bool false), false, H, nx⟩)) .bad) .bad) .bad) .bad) (.ret ⟨.ret (.bool false), false, H, nx⟩)) .bad) .bad) .bad) .bad)
 (optK (rdFieldAddr P 125 (some t6) 1) (fun x16 =>
  optK (rdLoad P H 3 (some x16)) (fun x17 =>
  optK (rdBin P H .lss 3 true (some x17) (some (.int .i64 0))) (fun x18 =>
  bvK x18 (fun b19 => bK b19 (.jump (l61_16 t0 t1 t6 true H nx)) (optK (rdFieldAddr P 125 (some t6) 1) (fun x20 =>
  optK (rdLoad P H 3 (some x20)) (fun x21 =>
  optK (rdIndexAddr P 30 (some t0) (some t1)) (fun x22 =>
  optK (rdFieldAddr P 69 (some x22) 1) (fun x23 =>
  optK (rdLoad P H 3 (some x23)) (fun x24 =>
  optK (rdBin P H .geq 3 false (some x21) (some x24)) (fun x25 =>
  bvK x25 (fun b26 => .jump (l61_16 t0 t1 t6 b26 H nx)) .bad) .bad) .bad) .bad) .bad) .bad) .bad)) .bad) .bad) .bad) .bad) := by kernel_rfl
theorem q61_16 (t0 : Value) (t1 : Value) (t6 : Value) (t80 : Bool) (H : T OB) (nx : Nat) : evT P pl (l61_16 t0 t1 t6 t80 H nx) =
  bK t80
 (.ret ⟨.ret (.bool false), false, H, nx⟩)
 (optK (rdFieldAddr P 125 (some t6) 0) (fun x0 =>
  optK (rdLoad P H 3 (some x0)) (fun x1 =>
  optK (rdBin P H .eql 3 true (some x1) (some (.int .i64 1))) (fun x2 =>
  bvK x2 (fun b3 => bK b3
 (.jump (l61_28 t0 t1 t6 x1 b3 H nx))
 (optK (rdBin P H .eql 3 true (some x1) (some (.int .i64 3))) (fun x4 =>
  bvK x4 (fun b5 => bK b5
 (.jump (l61_28 t0 t1 t6 x1 b5 H nx))
 (optK (rdBin P H .eql 3 true (some x1) (some (.int .i64 7))) (fun x6 =>
  bvK x6 (fun b7 => bK b7
 (.jump (l61_28 t0 t1 t6 x1 b7 H nx))
 (optK (rdBin P H .eql 3 true (some x1) (some (.int .i64 9))) (fun x8 =>
  bvK x8 (fun b9 => .jump (l61_28 t0 t1 t6 x1 b9 H nx)) .bad) .bad)) .bad) .bad)) .bad) .bad)) .bad) .bad) .bad) .bad) := by kernel_rfl
theorem q61_28 (t0 : Value) (t1 : Value) (t6 : Value) (t82 : Value) (t83 : Bool) (H : T OB) (nx : Nat) : evT P pl (l61_28 t0 t1 t6 t82 t83 H nx) =
  bK t83
 (optK (rdFieldAddr P 125 (some t6) 2) (fun x0 =>
  optK (rdLoad P H 3 (some x0)) (fun x1 =>
  optK (rdBin P H .eql 3 true (some x1) (some (.int .i64 0))) (fun x2 =>
  bvK x2 (fun b3 => .ret ⟨.ret (.bool b3), false, H, nx⟩) .bad) .bad) .bad) .bad)
 (optK (rdBin P H .eql 3 true (some t82) (some (.int .i64 6))) (fun x4 =>
  bvK x4 (fun b5 => bK b5
 (optK (rdFieldAddr P 125 (some t6) 2) (fun x6 =>
  optK (rdLoad P H 3 (some x6)) (fun x7 =>
  optK (rdBin P H .geq 3 true (some x7) (some (.int .i64 0))) (fun x8 =>
  bvK x8 (fun b9 => bK b9 (optK (rdFieldAddr P 125 (some t6) 2) (fun x10 =>
  optK (rdLoad P H 3 (some x10)) (fun x11 =>
  optK (rdBin P H .lss 3 true (some x11) (some (.int .i64 16384))) (fun x12 =>
  bvK x12 (fun b13 => .ret ⟨.ret (.bool b13), false, H, nx⟩) .bad) .bad) .bad) .bad) (.ret ⟨.ret (.bool false), false, H, nx⟩)) .bad) .bad) .bad) .bad)
 (optK (rdBin P H .eql 3 true (some t82) (some (.int .i64 10))) (fun x14 =>
  bvK x14 (fun b15 => bK b15
 (optK (rdFieldAddr P 125 (some t6) 2) (fun x16 =>
  optK (rdLoad P H 3 (some x16)) (fun x17 =>
  optK (rdBin P H .geq 3 true (some x17) (some (.int .i64 0))) (fun x18 =>
  bvK x18 (fun b19 => bK b19 (optK (rdFieldAddr P 125 (some t6) 2) (fun x20 =>
  optK (rdLoad P H 3 (some x20)) (fun x21 =>
  optK (rdIndexAddr P 30 (some t0) (some t1)) (fun x22 =>
  optK (rdFieldAddr P 69 (some x22) 1) (fun x23 =>
  optK (rdLoad P H 3 (some x23)) (fun x24 =>
  optK (rdBin P H .lss 3 false (some x21) (some x24)) (fun x25 =>
  bvK x25 (fun b26 => .ret ⟨.ret (.bool b26), false, H, nx⟩) .bad) .bad) .bad) .bad) .bad) .bad) .bad) (.ret ⟨.ret (.bool false), false, H, nx⟩)) .bad) .bad) .bad) .bad)
 (.ret ⟨.ret (.bool true), false, H, nx⟩)) .bad) .bad)) .bad) .bad) := by kernel_rfl
/-! kindling/kindlingref11.with -/
theorem q62 (a0 : Value) (a1 : Value) (H : T OB) (nx : Nat) : evT P pl (.call 62 [a0, a1] false none H nx) =
  effQ (efAppS P H nx [22, 22] (some [(.slice none 0 0), a0])) (fun x0 H nx =>
  effQ (efBuildSlice P H nx 22 1 (some [(0, a1)])) (fun x1 H nx =>
  effQ (efAppS P H nx [22, 22] (some [x0, x1])) (fun x2 H nx =>
  frzV P 22 x2 H nx (fun x3 H nx =>
  .ret ⟨.ret x3, false, H, nx⟩)))) := by kernel_rfl
/-! kindling/kindlingref11.rightAtoms -/
noncomputable def l63_7 (t0 : Value) (t1 : Value) (t2 : Value) (t3 : Value) (t9 : Value) (H : T OB) (nx : Nat) : Cfg := .at ⟨63, 25, false, [], none, false⟩ (tmOf [(0, t0), (1, t1), (2, t2), (3, t3), (9, t9)]) (todoOf P 63 7) H nx
theorem q63 (a0 : Value) (a1 : Value) (a2 : Value) (a3 : Value) (H : T OB) (nx : Nat) : evT P pl (.call 63 [a0, a1, a2, a3] false none H nx) =
  .jump (l63_7 a0 a1 a2 a3 (.int .i64 0) H nx) := by kernel_rfl
theorem q63_7 (t0 : Value) (t1 : Value) (t2 : Value) (t3 : Value) (t9 : Value) (H : T OB) (nx : Nat) : evT P pl (l63_7 t0 t1 t2 t3 t9 H nx) =
  optK (rdLen P #[64] 3 (some [t2])) (fun x0 =>
  optK (rdBin P H .lss 3 false (some t9) (some x0)) (fun x1 =>
  bvK x1 (fun b2 => bK b2
 (optK (rdIndexAddr P 64 (some t2) (some t9)) (fun x3 =>
  optK (rdLoad P H 71 (some x3)) (fun x4 =>
  callQ (.call 100 [t0, t1, x4, t3] false none H nx) (fun x5 H nx =>
  bvK x5 (fun b6 => optK (unV P .not (some (.bool b6))) (fun x7 =>
  bvK x7 (fun b8 => bK b8
 (.ret ⟨.ret (.bool false), false, H, nx⟩)
 (optK (rdBin P H .add 3 true (some t9) (some (.int .i64 1))) (fun x9 =>
  .jump (l63_7 t0 t1 t2 t3 x9 H nx)) .bad)) .bad) .bad) .bad) panK) .bad) .bad)
 (.ret ⟨.ret (.bool true), false, H, nx⟩)) .bad) .bad) .bad := by kernel_rfl
end
end Go.Proofs.YtfdgoenmdalphaaGreatDoor
