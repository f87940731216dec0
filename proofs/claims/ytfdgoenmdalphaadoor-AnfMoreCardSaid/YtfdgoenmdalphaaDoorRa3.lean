/- What functions of the program say, as trees. -/
import Derived.Test.YtfdgoenmdalphaaDoorRa0
import Derived.KernelRfl
namespace Go.Proofs.YtfdgoenmdalphaaDoor
open Go.Ev Go.RowKit
noncomputable section
set_option linter.unusedVariables false
set_option maxHeartbeats 8000000
/-! (*kindling/anf.reader).atom -/
theorem q44 (a0 : Value) (a1 : Value) (a2 : Value) (H : T OB) (nx : Nat) : evT P pl (.call 44 [a0, a1, a2] false none H nx) =
  natF (Nat.succ nx) (fun nx =>
  optK (rdFieldAddr P 26 (some (eptrV a1)) 1) (fun x0 =>
  optK (rdLoad P H 3 (some x0)) (fun x1 =>
  optK (rdBin P H .eql 3 true (some x1) (some (.int .i64 0))) (fun x2 =>
  bvK x2 (fun b3 => optK (rdFieldAddr P 26 (some (eptrV a1)) 2) (fun x4 =>
  optK (rdLoad P H 2 (some x4)) (fun x5 =>
  optK (rdBin P H .eql 2 true (some x5) (some (.int .i64 0))) (fun x6 =>
  bvK x6 (fun b7 => optK (rdFieldAddr P 26 (some (eptrV a1)) 3) (fun x8 =>
  optK (rdLoad P H 9 (some x8)) (fun x9 =>
  optK (rdBin P H .eql 9 true (some x9) (some (.string ⟨⟨[]⟩⟩))) (fun x10 =>
  bvK x10 (fun b11 => optK (rdFieldAddr P 26 (some (eptrV a1)) 0) (fun x12 =>
  optK (rdLoad P H 3 (some x12)) (fun x13 =>
  optK (rdBin P H .eql 3 true (some x13) (some (.int .i64 1))) (fun x14 =>
  bvK x14 (fun b15 => bK b15
 (bK b3 (bK b11 (optK (rdFieldAddr P 26 (some (eptrV a1)) 2) (fun x16 =>
  optK (rdLoad P H 2 (some x16)) (fun x17 =>
  callQ (.call 45 [x17] false none H nx) (fun x18 H nx =>
  bvK x18 (fun b19 => .ret ⟨.ret (.bool b19), false, H, nx⟩) .bad) panK) .bad) .bad) (.ret ⟨.ret (.bool false), false, H, nx⟩)) (.ret ⟨.ret (.bool false), false, H, nx⟩))
 (optK (rdBin P H .eql 3 true (some x13) (some (.int .i64 2))) (fun x20 =>
  bvK x20 (fun b21 => bK b21
 (bK b3 (.ret ⟨.ret (.bool b7), false, H, nx⟩) (.ret ⟨.ret (.bool false), false, H, nx⟩))
 (optK (rdBin P H .eql 3 true (some x13) (some (.int .i64 3))) (fun x22 =>
  bvK x22 (fun b23 => bK b23
 (bK b7 (bK b11 (optK (rdFieldAddr P 26 (some (eptrV a1)) 1) (fun x24 =>
  optK (rdLoad P H 3 (some x24)) (fun x25 =>
  optK (rdBin P H .geq 3 true (some x25) (some (.int .i64 0))) (fun x26 =>
  bvK x26 (fun b27 => bK b27 (optK (rdFieldAddr P 26 (some (eptrV a1)) 1) (fun x28 =>
  optK (rdLoad P H 3 (some x28)) (fun x29 =>
  optK (rdNil (some a0)) (fun x30 =>
  optK (rdFieldAddr P 58 (some x30) 1) (fun x31 =>
  optK (rdFieldAddr P 33 (some x31) 1) (fun x32 =>
  optK (rdLoad P H 3 (some x32)) (fun x33 =>
  optK (rdBin P H .lss 3 false (some x29) (some x33)) (fun x34 =>
  bvK x34 (fun b35 => bK b35 (optK (rdFieldAddr P 26 (some (eptrV a1)) 1) (fun x36 =>
  optK (rdLoad P H 3 (some x36)) (fun x37 =>
  callQ (.call 60 [a2, x37] false none H nx) (fun x38 H nx =>
  bvK x38 (fun b39 => .ret ⟨.ret (.bool b39), false, H, nx⟩) .bad) panK) .bad) .bad) (.ret ⟨.ret (.bool false), false, H, nx⟩)) .bad) .bad) .bad) .bad) .bad) .bad) .bad) .bad) (.ret ⟨.ret (.bool false), false, H, nx⟩)) .bad) .bad) .bad) .bad) (.ret ⟨.ret (.bool false), false, H, nx⟩)) (.ret ⟨.ret (.bool false), false, H, nx⟩))
 (optK (rdBin P H .eql 3 true (some x13) (some (.int .i64 4))) (fun x40 =>
  bvK x40 (fun b41 => bK b41
 (bK b3 (bK b7 (bK b11 (optK (rdNil (some a0)) (fun x42 =>
  optK (rdFieldAddr P 58 (some x42) 2) (fun x43 =>
  optK (rdLoad P H 3 (some x43)) (fun x44 =>
  optK (rdBin P H .gtr 3 true (some x44) (some (.int .i64 0))) (fun x45 =>
  bvK x45 (fun b46 => .ret ⟨.ret (.bool b46), false, H, nx⟩) .bad) .bad) .bad) .bad) .bad) (.ret ⟨.ret (.bool false), false, H, nx⟩)) (.ret ⟨.ret (.bool false), false, H, nx⟩)) (.ret ⟨.ret (.bool false), false, H, nx⟩))
 (optK (rdBin P H .eql 3 true (some x13) (some (.int .i64 5))) (fun x47 =>
  bvK x47 (fun b48 => bK b48
 (bK b7 (bK b11 (optK (rdFieldAddr P 26 (some (eptrV a1)) 1) (fun x49 =>
  optK (rdLoad P H 3 (some x49)) (fun x50 =>
  optK (rdBin P H .geq 3 true (some x50) (some (.int .i64 0))) (fun x51 =>
  bvK x51 (fun b52 => bK b52 (optK (rdFieldAddr P 26 (some (eptrV a1)) 1) (fun x53 =>
  optK (rdLoad P H 3 (some x53)) (fun x54 =>
  optK (rdNil (some a0)) (fun x55 =>
  optK (rdFieldAddr P 58 (some x55) 1) (fun x56 =>
  optK (rdFieldAddr P 33 (some x56) 0) (fun x57 =>
  optK (rdLoad P H 3 (some x57)) (fun x58 =>
  optK (rdBin P H .lss 3 false (some x54) (some x58)) (fun x59 =>
  bvK x59 (fun b60 => .ret ⟨.ret (.bool b60), false, H, nx⟩) .bad) .bad) .bad) .bad) .bad) .bad) .bad) .bad) (.ret ⟨.ret (.bool false), false, H, nx⟩)) .bad) .bad) .bad) .bad) (.ret ⟨.ret (.bool false), false, H, nx⟩)) (.ret ⟨.ret (.bool false), false, H, nx⟩))
 (optK (rdBin P H .eql 3 true (some x13) (some (.int .i64 6))) (fun x61 =>
  bvK x61 (fun b62 => bK b62
 (bK b7 (bK b11 (optK (rdFieldAddr P 26 (some (eptrV a1)) 1) (fun x63 =>
  optK (rdLoad P H 3 (some x63)) (fun x64 =>
  optK (rdBin P H .geq 3 true (some x64) (some (.int .i64 0))) (fun x65 =>
  bvK x65 (fun b66 => bK b66 (optK (rdFieldAddr P 26 (some (eptrV a1)) 1) (fun x67 =>
  optK (rdLoad P H 3 (some x67)) (fun x68 =>
  optK (rdBin P H .lss 3 true (some x68) (some (.int .i64 1024))) (fun x69 =>
  bvK x69 (fun b70 => .ret ⟨.ret (.bool b70), false, H, nx⟩) .bad) .bad) .bad) .bad) (.ret ⟨.ret (.bool false), false, H, nx⟩)) .bad) .bad) .bad) .bad) (.ret ⟨.ret (.bool false), false, H, nx⟩)) (.ret ⟨.ret (.bool false), false, H, nx⟩))
 (.ret ⟨.ret (.bool false), false, H, nx⟩)) .bad) .bad)) .bad) .bad)) .bad) .bad)) .bad) .bad)) .bad) .bad)) .bad) .bad) .bad) .bad) .bad) .bad) .bad) .bad) .bad) .bad) .bad) .bad) .bad) .bad) .bad) .bad) := by kernel_rfl
/-! kindling/num.Fit -/
theorem q45 (a0 : Value) (H : T OB) (nx : Nat) : evT P pl (.call 45 [a0] false none H nx) =
  optK (rdBin P H .geq 2 true (some a0) (some (.int .i64 (-4611686018427387904)))) (fun x0 =>
  bvK x0 (fun b1 => bK b1 (optK (rdBin P H .leq 2 true (some a0) (some (.int .i64 4611686018427387903))) (fun x2 =>
  bvK x2 (fun b3 => .ret ⟨.ret (.bool b3), false, H, nx⟩) .bad) .bad) (.ret ⟨.ret (.bool false), false, H, nx⟩)) .bad) .bad := by kernel_rfl
/-! kindling/core.fixed -/
noncomputable def l46_6 (t1 : Value) (t27 : Bool) (H : T OB) (nx : Nat) : Cfg := .at ⟨46, 55, false, [], none, false⟩ (tmOf [(1, t1), (27, .bool t27)]) (todoOf P 46 6) H nx
noncomputable def l46_13 (t3 : Value) (t30 : Value) (t31 : Value) (t32 : Value) (H : T OB) (nx : Nat) : Cfg := .at ⟨46, 55, false, [], none, false⟩ (tmOf [(3, t3), (30, t30), (31, t31), (32, t32)]) (todoOf P 46 13) H nx
noncomputable def l46_18 (t3 : Value) (t4 : Value) (t5 : Value) (t30 : Value) (t31 : Value) (t32 : Value) (t48 : Bool) (H : T OB) (nx : Nat) : Cfg := .at ⟨46, 55, false, [], none, false⟩ (tmOf [(3, t3), (4, t4), (5, t5), (30, t30), (31, t31), (32, t32), (48, .bool t48)]) (todoOf P 46 18) H nx
theorem q46 (a0 : Value) (H : T OB) (nx : Nat) : evT P pl (.call 46 [a0] false none H nx) =
  natF (Nat.succ nx) (fun nx =>
  optK (rdFieldAddr P 43 (some (eptrV a0)) 4) (fun x0 =>
  optK (rdLoad P H 40 (some x0)) (fun x1 =>
  optK (rdLen P #[40] 3 (some [x1])) (fun x2 =>
  optK (rdBin P H .eql 3 true (some x2) (some (.int .i64 0))) (fun x3 =>
  bvK x3 (fun b4 => bK b4 (.jump (l46_6 (eptrV a0) true H nx)) (optK (rdFieldAddr P 43 (some (eptrV a0)) 4) (fun x5 =>
  optK (rdLoad P H 40 (some x5)) (fun x6 =>
  optK (rdLen P #[40] 3 (some [x6])) (fun x7 =>
  optK (rdBin P H .rem 3 true (some x7) (some (.int .i64 2))) (fun x8 =>
  optK (rdBin P H .neq 3 true (some x8) (some (.int .i64 0))) (fun x9 =>
  bvK x9 (fun b10 => bK b10 (.jump (l46_6 (eptrV a0) true H nx)) (optK (rdFieldAddr P 43 (some (eptrV a0)) 5) (fun x11 =>
  optK (rdLoad P H 41 (some x11)) (fun x12 =>
  optK (rdLen P #[41] 3 (some [x12])) (fun x13 =>
  optK (rdFieldAddr P 43 (some (eptrV a0)) 4) (fun x14 =>
  optK (rdLoad P H 40 (some x14)) (fun x15 =>
  optK (rdLen P #[40] 3 (some [x15])) (fun x16 =>
  optK (rdBin P H .quo 3 true (some x16) (some (.int .i64 2))) (fun x17 =>
  optK (rdBin P H .add 3 true (some x17) (some (.int .i64 1))) (fun x18 =>
  optK (rdBin P H .neq 3 false (some x13) (some x18)) (fun x19 =>
  bvK x19 (fun b20 => .jump (l46_6 (eptrV a0) b20 H nx)) .bad) .bad) .bad) .bad) .bad) .bad) .bad) .bad) .bad) .bad)) .bad) .bad) .bad) .bad) .bad) .bad)) .bad) .bad) .bad) .bad) .bad) := by kernel_rfl
theorem q46_6 (t1 : Value) (t27 : Bool) (H : T OB) (nx : Nat) : evT P pl (l46_6 t1 t27 H nx) =
  bK t27
 (.ret ⟨.ret (.bool false), false, H, nx⟩)
 (effQ (efMakeMap H nx) (fun x0 H nx =>
  optK (rdFieldAddr P 43 (some t1) 4) (fun x1 =>
  optK (rdLoad P H 40 (some x1)) (fun x2 =>
  optK (rdLen P #[40] 3 (some [x2])) (fun x3 =>
  .jump (l46_13 x0 x2 x3 (.int .i64 0) H nx)) .bad) .bad) .bad)) := by kernel_rfl
theorem q46_13 (t3 : Value) (t30 : Value) (t31 : Value) (t32 : Value) (H : T OB) (nx : Nat) : evT P pl (l46_13 t3 t30 t31 t32 H nx) =
  optK (rdBin P H .lss 3 false (some t32) (some t31)) (fun x0 =>
  bvK x0 (fun b1 => bK b1
 (optK (rdIndexAddr P 40 (some t30) (some t32)) (fun x2 =>
  optK (rdLoad P H 3 (some x2)) (fun x3 =>
  optK (rdBin P H .lss 3 true (some x3) (some (.int .i64 0))) (fun x4 =>
  bvK x4 (fun b5 => bK b5 (.jump (l46_18 t3 t32 x3 t30 t31 t32 true H nx)) (optK (rdBin P H .rem 3 true (some t32) (some (.int .i64 2))) (fun x6 =>
  optK (rdBin P H .eql 3 true (some x6) (some (.int .i64 0))) (fun x7 =>
  bvK x7 (fun b8 => bK b8 (optK (rdLookup P H 102 (some t3) (some x3) false) (fun x9 =>
  bvK x9 (fun b10 => .jump (l46_18 t3 t32 x3 t30 t31 t32 b10 H nx)) .bad) .bad) (.jump (l46_18 t3 t32 x3 t30 t31 t32 false H nx))) .bad) .bad) .bad)) .bad) .bad) .bad) .bad)
 (.ret ⟨.ret (.bool true), false, H, nx⟩)) .bad) .bad := by kernel_rfl
theorem q46_18 (t3 : Value) (t4 : Value) (t5 : Value) (t30 : Value) (t31 : Value) (t32 : Value) (t48 : Bool) (H : T OB) (nx : Nat) : evT P pl (l46_18 t3 t4 t5 t30 t31 t32 t48 H nx) =
  bK t48
 (.ret ⟨.ret (.bool false), false, H, nx⟩)
 (optK (rdBin P H .rem 3 true (some t4) (some (.int .i64 2))) (fun x0 =>
  optK (rdBin P H .eql 3 true (some x0) (some (.int .i64 0))) (fun x1 =>
  bvK x1 (fun b2 => bK b2
 (effQ (efMapUpdate P H nx 102 (some t3) (some t5) (some (.bool true))) (fun x3 H nx =>
  optK (rdBin P H .add 3 true (some t32) (some (.int .i64 1))) (fun x4 =>
  .jump (l46_13 t3 t30 t31 x4 H nx)) .bad))
 (optK (rdBin P H .add 3 true (some t32) (some (.int .i64 1))) (fun x5 =>
  .jump (l46_13 t3 t30 t31 x5 H nx)) .bad)) .bad) .bad) .bad) := by kernel_rfl
/-! kindling/core.args -/
noncomputable def l47_18 (t3 : Value) (t4 : Bool) (H : T OB) (nx : Nat) : Cfg := .at ⟨47, 23, false, [], none, false⟩ (tmOf [(3, t3), (4, .bool t4)]) (todoOf P 47 18) H nx
noncomputable def l47_42 (t11 : Bool) (H : T OB) (nx : Nat) : Cfg := .at ⟨47, 23, false, [], none, false⟩ (tmOf [(11, .bool t11)]) (todoOf P 47 42) H nx
theorem q47 (a0 : Value) (H : T OB) (nx : Nat) : evT P pl (.call 47 [a0] false none H nx) =
  optK (rdBin P H .eql 3 true (some a0) (some (.int .i64 18))) (fun x0 =>
  bvK x0 (fun b1 => bK b1
 (.jump (l47_18 a0 b1 H nx))
 (optK (rdBin P H .eql 3 true (some a0) (some (.int .i64 12))) (fun x2 =>
  bvK x2 (fun b3 => bK b3
 (.jump (l47_18 a0 b3 H nx))
 (optK (rdBin P H .eql 3 true (some a0) (some (.int .i64 22))) (fun x4 =>
  bvK x4 (fun b5 => bK b5
 (.jump (l47_18 a0 b5 H nx))
 (optK (rdBin P H .eql 3 true (some a0) (some (.int .i64 33))) (fun x6 =>
  bvK x6 (fun b7 => bK b7
 (.jump (l47_18 a0 b7 H nx))
 (optK (rdBin P H .eql 3 true (some a0) (some (.int .i64 34))) (fun x8 =>
  bvK x8 (fun b9 => bK b9
 (.jump (l47_18 a0 b9 H nx))
 (optK (rdBin P H .eql 3 true (some a0) (some (.int .i64 36))) (fun x10 =>
  bvK x10 (fun b11 => .jump (l47_18 a0 b11 H nx)) .bad) .bad)) .bad) .bad)) .bad) .bad)) .bad) .bad)) .bad) .bad)) .bad) .bad := by kernel_rfl
theorem q47_18 (t3 : Value) (t4 : Bool) (H : T OB) (nx : Nat) : evT P pl (l47_18 t3 t4 H nx) =
  bK t4
 (.ret ⟨.ret (.int .i64 1), false, H, nx⟩)
 (optK (rdBin P H .eql 3 true (some t3) (some (.int .i64 7))) (fun x0 =>
  bvK x0 (fun b1 => bK b1
 (.jump (l47_42 b1 H nx))
 (optK (rdBin P H .eql 3 true (some t3) (some (.int .i64 8))) (fun x2 =>
  bvK x2 (fun b3 => bK b3
 (.jump (l47_42 b3 H nx))
 (optK (rdBin P H .eql 3 true (some t3) (some (.int .i64 9))) (fun x4 =>
  bvK x4 (fun b5 => bK b5
 (.jump (l47_42 b5 H nx))
 (optK (rdBin P H .eql 3 true (some t3) (some (.int .i64 10))) (fun x6 =>
  bvK x6 (fun b7 => bK b7
 (.jump (l47_42 b7 H nx))
 (optK (rdBin P H .eql 3 true (some t3) (some (.int .i64 11))) (fun x8 =>
  bvK x8 (fun b9 => bK b9
 (.jump (l47_42 b9 H nx))
 (optK (rdBin P H .eql 3 true (some t3) (some (.int .i64 13))) (fun x10 =>
  bvK x10 (fun b11 => bK b11
 (.jump (l47_42 b11 H nx))
 (optK (rdBin P H .eql 3 true (some t3) (some (.int .i64 14))) (fun x12 =>
  bvK x12 (fun b13 => bK b13
 (.jump (l47_42 b13 H nx))
 (optK (rdBin P H .eql 3 true (some t3) (some (.int .i64 15))) (fun x14 =>
  bvK x14 (fun b15 => bK b15
 (.jump (l47_42 b15 H nx))
 (optK (rdBin P H .eql 3 true (some t3) (some (.int .i64 21))) (fun x16 =>
  bvK x16 (fun b17 => bK b17
 (.jump (l47_42 b17 H nx))
 (optK (rdBin P H .eql 3 true (some t3) (some (.int .i64 32))) (fun x18 =>
  bvK x18 (fun b19 => bK b19
 (.jump (l47_42 b19 H nx))
 (optK (rdBin P H .eql 3 true (some t3) (some (.int .i64 35))) (fun x20 =>
  bvK x20 (fun b21 => .jump (l47_42 b21 H nx)) .bad) .bad)) .bad) .bad)) .bad) .bad)) .bad) .bad)) .bad) .bad)) .bad) .bad)) .bad) .bad)) .bad) .bad)) .bad) .bad)) .bad) .bad)) .bad) .bad) := by kernel_rfl
theorem q47_42 (t11 : Bool) (H : T OB) (nx : Nat) : evT P pl (l47_42 t11 H nx) =
  bK t11
 (.ret ⟨.ret (.int .i64 2), false, H, nx⟩)
 (.ret ⟨.ret (.int .i64 0), false, H, nx⟩) := by kernel_rfl
/-! (*kindling/anf.seen).has -/
noncomputable def l60_5 (t0 : Value) (t1 : Value) (H : T OB) (nx : Nat) : Cfg := .at ⟨60, 17, false, [], none, false⟩ (tmOf [(0, t0), (1, t1)]) (todoOf P 60 5) H nx
theorem q60 (a0 : Value) (a1 : Value) (H : T OB) (nx : Nat) : evT P pl (.call 60 [a0, a1] false none H nx) =
  .jump (l60_5 a0 a1 H nx) := by kernel_rfl
theorem q60_5 (t0 : Value) (t1 : Value) (H : T OB) (nx : Nat) : evT P pl (l60_5 t0 t1 H nx) =
  optK (rdBin P H .neq 97 true (some t0) (some (.pointer none))) (fun x0 =>
  bvK x0 (fun b1 => bK b1
 (optK (rdNil (some t0)) (fun x2 =>
  optK (rdFieldAddr P 101 (some x2) 0) (fun x3 =>
  optK (rdLoad P H 3 (some x3)) (fun x4 =>
  optK (rdBin P H .eql 3 false (some x4) (some t1)) (fun x5 =>
  bvK x5 (fun b6 => bK b6
 (.ret ⟨.ret (.bool true), false, H, nx⟩)
 (optK (rdNil (some t0)) (fun x7 =>
  optK (rdFieldAddr P 101 (some x7) 1) (fun x8 =>
  optK (rdLoad P H 97 (some x8)) (fun x9 =>
  .jump (l60_5 x9 t1 H nx)) .bad) .bad) .bad)) .bad) .bad) .bad) .bad) .bad)
 (.ret ⟨.ret (.bool false), false, H, nx⟩)) .bad) .bad := by kernel_rfl
end
end Go.Proofs.YtfdgoenmdalphaaDoor
