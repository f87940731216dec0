/- What functions of the program say, as trees. -/
import Derived.Test.YtfdgoenmdalphaaGreatDoorRa0
import Derived.KernelRfl
namespace Go.Proofs.YtfdgoenmdalphaaGreatDoor
open Go.Ev Go.RowKit
noncomputable section
set_option linter.unusedVariables false
set_option maxHeartbeats 8000000
/-! kindling/kindlingref11.rightAtom -/
noncomputable def l100_44 (t6 : Value) (t9 : Value) (t10 : Bool) (H : T OB) (nx : Nat) : Cfg := .at ⟨100, 99, false, [], none, false⟩ (tmOf [(6, t6), (9, t9), (10, .bool t10)]) (todoOf P 100 44) H nx
theorem q100 (a0 : Value) (a1 : Value) (a2 : Value) (a3 : Value) (H : T OB) (nx : Nat) : evT P pl (.call 100 [a0, a1, a2, a3] false none H nx) =
  natF (Nat.succ nx) (fun nx =>
  optK (rdFieldAddr P 71 (some (eptrV a2)) 0) (fun x0 =>
  optK (rdLoad P H 3 (some x0)) (fun x1 =>
  optK (rdBuild P 71 (some [(0, x1)])) (fun x2 =>
  effQ (efAlloc P H nx 71) (fun x3 H nx =>
  effQ (efStore P H nx 71 (some x3) (some x2)) (fun x4 H nx =>
  optK (rdFieldAddr P 71 (some (eptrV a2)) 0) (fun x5 =>
  optK (rdLoad P H 3 (some x5)) (fun x6 =>
  optK (rdBin P H .eql 3 true (some x6) (some (.int .i64 1))) (fun x7 =>
  bvK x7 (fun b8 => bK b8
 (optK (rdFieldAddr P 71 (some (eptrV a2)) 2) (fun x9 =>
  optK (rdLoad P H 2 (some x9)) (fun x10 =>
  optK (rdFieldAddr P 71 (some x3) 2) (fun x11 =>
  effQ (efStore P H nx 2 (some x11) (some x10)) (fun x12 H nx =>
  optK (rdFieldAddr P 71 (some (eptrV a2)) 2) (fun x13 =>
  optK (rdLoad P H 2 (some x13)) (fun x14 =>
  optK (rdBin P H .geq 2 true (some x14) (some (.int .i64 (-4611686018427387904)))) (fun x15 =>
  bvK x15 (fun b16 => bK b16 (optK (rdFieldAddr P 71 (some (eptrV a2)) 2) (fun x17 =>
  optK (rdLoad P H 2 (some x17)) (fun x18 =>
  optK (rdBin P H .leq 2 true (some x18) (some (.int .i64 4611686018427387903))) (fun x19 =>
  bvK x19 (fun b20 => .jump (l100_44 (eptrV a2) x3 b20 H nx)) .bad) .bad) .bad) .bad) (.jump (l100_44 (eptrV a2) x3 false H nx))) .bad) .bad) .bad) .bad)) .bad) .bad) .bad)
 (optK (rdBin P H .eql 3 true (some x6) (some (.int .i64 2))) (fun x21 =>
  bvK x21 (fun b22 => bK b22
 (optK (rdFieldAddr P 71 (some (eptrV a2)) 3) (fun x23 =>
  optK (rdLoad P H 9 (some x23)) (fun x24 =>
  optK (rdFieldAddr P 71 (some x3) 3) (fun x25 =>
  effQ (efStore P H nx 9 (some x25) (some x24)) (fun x26 H nx =>
  .jump (l100_44 (eptrV a2) x3 true H nx))) .bad) .bad) .bad)
 (optK (rdBin P H .eql 3 true (some x6) (some (.int .i64 3))) (fun x27 =>
  bvK x27 (fun b28 => bK b28
 (optK (rdFieldAddr P 71 (some (eptrV a2)) 1) (fun x29 =>
  optK (rdLoad P H 3 (some x29)) (fun x30 =>
  optK (rdFieldAddr P 71 (some x3) 1) (fun x31 =>
  effQ (efStore P H nx 3 (some x31) (some x30)) (fun x32 H nx =>
  optK (rdFieldAddr P 71 (some (eptrV a2)) 1) (fun x33 =>
  optK (rdLoad P H 3 (some x33)) (fun x34 =>
  optK (rdBin P H .geq 3 true (some x34) (some (.int .i64 0))) (fun x35 =>
  bvK x35 (fun b36 => bK b36 (optK (rdFieldAddr P 71 (some (eptrV a2)) 1) (fun x37 =>
  optK (rdLoad P H 3 (some x37)) (fun x38 =>
  optK (rdIndexAddr P 30 (some a0) (some a1)) (fun x39 =>
  optK (rdFieldAddr P 69 (some x39) 1) (fun x40 =>
  optK (rdLoad P H 3 (some x40)) (fun x41 =>
  optK (rdBin P H .lss 3 false (some x38) (some x41)) (fun x42 =>
  bvK x42 (fun b43 => bK b43 (optK (rdFieldAddr P 71 (some (eptrV a2)) 1) (fun x44 =>
  optK (rdLoad P H 3 (some x44)) (fun x45 =>
  callQ (.call 124 [a3, x45] false none H nx) (fun x46 H nx =>
  bvK x46 (fun b47 => .jump (l100_44 (eptrV a2) x3 b47 H nx)) .bad) panK) .bad) .bad) (.jump (l100_44 (eptrV a2) x3 false H nx))) .bad) .bad) .bad) .bad) .bad) .bad) .bad) (.jump (l100_44 (eptrV a2) x3 false H nx))) .bad) .bad) .bad) .bad)) .bad) .bad) .bad)
 (optK (rdBin P H .eql 3 true (some x6) (some (.int .i64 4))) (fun x48 =>
  bvK x48 (fun b49 => bK b49
 (optK (rdBin P H .gtr 3 true (some a1) (some (.int .i64 0))) (fun x50 =>
  bvK x50 (fun b51 => .jump (l100_44 (eptrV a2) x3 b51 H nx)) .bad) .bad)
 (optK (rdBin P H .eql 3 true (some x6) (some (.int .i64 5))) (fun x52 =>
  bvK x52 (fun b53 => bK b53
 (optK (rdFieldAddr P 71 (some (eptrV a2)) 1) (fun x54 =>
  optK (rdLoad P H 3 (some x54)) (fun x55 =>
  optK (rdFieldAddr P 71 (some x3) 1) (fun x56 =>
  effQ (efStore P H nx 3 (some x56) (some x55)) (fun x57 H nx =>
  optK (rdFieldAddr P 71 (some (eptrV a2)) 1) (fun x58 =>
  optK (rdLoad P H 3 (some x58)) (fun x59 =>
  optK (rdBin P H .geq 3 true (some x59) (some (.int .i64 0))) (fun x60 =>
  bvK x60 (fun b61 => bK b61 (optK (rdFieldAddr P 71 (some (eptrV a2)) 1) (fun x62 =>
  optK (rdLoad P H 3 (some x62)) (fun x63 =>
  optK (rdIndexAddr P 30 (some a0) (some a1)) (fun x64 =>
  optK (rdFieldAddr P 69 (some x64) 0) (fun x65 =>
  optK (rdLoad P H 3 (some x65)) (fun x66 =>
  optK (rdBin P H .lss 3 false (some x63) (some x66)) (fun x67 =>
  bvK x67 (fun b68 => .jump (l100_44 (eptrV a2) x3 b68 H nx)) .bad) .bad) .bad) .bad) .bad) .bad) .bad) (.jump (l100_44 (eptrV a2) x3 false H nx))) .bad) .bad) .bad) .bad)) .bad) .bad) .bad)
 (optK (rdBin P H .eql 3 true (some x6) (some (.int .i64 6))) (fun x69 =>
  bvK x69 (fun b70 => bK b70
 (optK (rdFieldAddr P 71 (some (eptrV a2)) 1) (fun x71 =>
  optK (rdLoad P H 3 (some x71)) (fun x72 =>
  optK (rdFieldAddr P 71 (some x3) 1) (fun x73 =>
  effQ (efStore P H nx 3 (some x73) (some x72)) (fun x74 H nx =>
  optK (rdFieldAddr P 71 (some (eptrV a2)) 1) (fun x75 =>
  optK (rdLoad P H 3 (some x75)) (fun x76 =>
  optK (rdBin P H .geq 3 true (some x76) (some (.int .i64 0))) (fun x77 =>
  bvK x77 (fun b78 => bK b78 (optK (rdFieldAddr P 71 (some (eptrV a2)) 1) (fun x79 =>
  optK (rdLoad P H 3 (some x79)) (fun x80 =>
  optK (rdBin P H .lss 3 true (some x80) (some (.int .i64 1024))) (fun x81 =>
  bvK x81 (fun b82 => .jump (l100_44 (eptrV a2) x3 b82 H nx)) .bad) .bad) .bad) .bad) (.jump (l100_44 (eptrV a2) x3 false H nx))) .bad) .bad) .bad) .bad)) .bad) .bad) .bad)
 (.jump (l100_44 (eptrV a2) x3 false H nx))) .bad) .bad)) .bad) .bad)) .bad) .bad)) .bad) .bad)) .bad) .bad)) .bad) .bad) .bad) .bad))) .bad) .bad) .bad) := by kernel_rfl
theorem q100_44 (t6 : Value) (t9 : Value) (t10 : Bool) (H : T OB) (nx : Nat) : evT P pl (l100_44 t6 t9 t10 H nx) =
  bK t10 (optK (rdLoad P H 71 (some t6)) (fun x0 =>
  optK (rdLoad P H 71 (some t9)) (fun x1 =>
  optK (rdBin P H .eql 71 false (some x0) (some x1)) (fun x2 =>
  bvK x2 (fun b3 => .ret ⟨.ret (.bool b3), false, H, nx⟩) .bad) .bad) .bad) .bad) (.ret ⟨.ret (.bool false), false, H, nx⟩) := by kernel_rfl
/-! kindling/kindlingref07.Quote -/
noncomputable def l109_9 (t0 : Value) (t3 : Value) (t4 : Value) (H : T OB) (nx : Nat) : Cfg := .at ⟨109, 63, false, [], none, false⟩ (tmOf [(0, t0), (3, t3), (4, t4)]) (todoOf P 109 9) H nx
noncomputable def l109_18 (t0 : Value) (t3 : Value) (t4 : Value) (t5 : Value) (t20 : Bool) (H : T OB) (nx : Nat) : Cfg := .at ⟨109, 63, false, [], none, false⟩ (tmOf [(0, t0), (3, t3), (4, t4), (5, t5), (20, .bool t20)]) (todoOf P 109 18) H nx
noncomputable def l109_30 (t0 : Value) (t3 : Value) (t4 : Value) (t5 : Value) (t43 : Bool) (H : T OB) (nx : Nat) : Cfg := .at ⟨109, 63, false, [], none, false⟩ (tmOf [(0, t0), (3, t3), (4, t4), (5, t5), (43, .bool t43)]) (todoOf P 109 30) H nx
theorem q109 (a0 : Value) (H : T OB) (nx : Nat) : evT P pl (.call 109 [a0] false none H nx) =
  effQ (efBuildSlice P H nx 100 1 (some [(0, (.int .u8 34))])) (fun x0 H nx =>
  .jump (l109_9 a0 x0 (.int .i64 0) H nx)) := by kernel_rfl
theorem q109_9 (t0 : Value) (t3 : Value) (t4 : Value) (H : T OB) (nx : Nat) : evT P pl (l109_9 t0 t3 t4 H nx) =
  optK (rdLen P #[9] 3 (some [t0])) (fun x0 =>
  optK (rdBin P H .lss 3 false (some t4) (some x0)) (fun x1 =>
  bvK x1 (fun b2 => bK b2
 (optK (rdIndex P 9 (some t0) (some t4)) (fun x3 =>
  optK (rdBin P H .eql 5 true (some x3) (some (.int .u8 34))) (fun x4 =>
  bvK x4 (fun b5 => bK b5 (.jump (l109_18 t0 t3 t4 x3 true H nx)) (optK (rdBin P H .eql 5 true (some x3) (some (.int .u8 92))) (fun x6 =>
  bvK x6 (fun b7 => .jump (l109_18 t0 t3 t4 x3 b7 H nx)) .bad) .bad)) .bad) .bad) .bad)
 (effQ (efBuildSlice P H nx 100 1 (some [(0, (.int .u8 34))])) (fun x8 H nx =>
  effQ (efAppS P H nx [100, 100] (some [t3, x8])) (fun x9 H nx =>
  optK (rdConv P H 100 9 (some x9)) (fun x10 =>
  .ret ⟨.ret x10, false, H, nx⟩) .bad)))) .bad) .bad) .bad := by kernel_rfl
theorem q109_18 (t0 : Value) (t3 : Value) (t4 : Value) (t5 : Value) (t20 : Bool) (H : T OB) (nx : Nat) : evT P pl (l109_18 t0 t3 t4 t5 t20 H nx) =
  bK t20
 (effQ (efBuildSlice P H nx 100 2 (some [(0, (.int .u8 92)), (1, t5)])) (fun x0 H nx =>
  effQ (efAppS P H nx [100, 100] (some [t3, x0])) (fun x1 H nx =>
  optK (rdBin P H .add 3 true (some t4) (some (.int .i64 1))) (fun x2 =>
  .jump (l109_9 t0 x1 x2 H nx)) .bad)))
 (optK (rdBin P H .eql 5 true (some t5) (some (.int .u8 10))) (fun x3 =>
  bvK x3 (fun b4 => bK b4
 (effQ (efBuildSlice P H nx 100 2 (some [(0, (.int .u8 92)), (1, (.int .u8 110))])) (fun x5 H nx =>
  effQ (efAppS P H nx [100, 100] (some [t3, x5])) (fun x6 H nx =>
  optK (rdBin P H .add 3 true (some t4) (some (.int .i64 1))) (fun x7 =>
  .jump (l109_9 t0 x6 x7 H nx)) .bad)))
 (optK (rdBin P H .eql 5 true (some t5) (some (.int .u8 9))) (fun x8 =>
  bvK x8 (fun b9 => bK b9
 (effQ (efBuildSlice P H nx 100 2 (some [(0, (.int .u8 92)), (1, (.int .u8 116))])) (fun x10 H nx =>
  effQ (efAppS P H nx [100, 100] (some [t3, x10])) (fun x11 H nx =>
  optK (rdBin P H .add 3 true (some t4) (some (.int .i64 1))) (fun x12 =>
  .jump (l109_9 t0 x11 x12 H nx)) .bad)))
 (optK (rdBin P H .lss 5 true (some t5) (some (.int .u8 32))) (fun x13 =>
  bvK x13 (fun b14 => bK b14 (.jump (l109_30 t0 t3 t4 t5 true H nx)) (optK (rdBin P H .gtr 5 true (some t5) (some (.int .u8 126))) (fun x15 =>
  bvK x15 (fun b16 => .jump (l109_30 t0 t3 t4 t5 b16 H nx)) .bad) .bad)) .bad) .bad)) .bad) .bad)) .bad) .bad) := by kernel_rfl
theorem q109_30 (t0 : Value) (t3 : Value) (t4 : Value) (t5 : Value) (t43 : Bool) (H : T OB) (nx : Nat) : evT P pl (l109_30 t0 t3 t4 t5 t43 H nx) =
  bK t43
 (optK (rdBin P H .quo 5 true (some t5) (some (.int .u8 16))) (fun x0 =>
  optK (rdIndex P 9 (some (.string ⟨⟨[48, 49, 50, 51, 52, 53, 54, 55, 56, 57, 65, 66, 67, 68, 69, 70]⟩⟩)) (some x0)) (fun x1 =>
  optK (rdBin P H .rem 5 true (some t5) (some (.int .u8 16))) (fun x2 =>
  optK (rdIndex P 9 (some (.string ⟨⟨[48, 49, 50, 51, 52, 53, 54, 55, 56, 57, 65, 66, 67, 68, 69, 70]⟩⟩)) (some x2)) (fun x3 =>
  effQ (efBuildSlice P H nx 100 4 (some [(0, (.int .u8 92)), (1, (.int .u8 120)), (2, x1), (3, x3)])) (fun x4 H nx =>
  effQ (efAppS P H nx [100, 100] (some [t3, x4])) (fun x5 H nx =>
  optK (rdBin P H .add 3 true (some t4) (some (.int .i64 1))) (fun x6 =>
  .jump (l109_9 t0 x5 x6 H nx)) .bad))) .bad) .bad) .bad) .bad)
 (effQ (efBuildSlice P H nx 100 1 (some [(0, t5)])) (fun x7 H nx =>
  effQ (efAppS P H nx [100, 100] (some [t3, x7])) (fun x8 H nx =>
  optK (rdBin P H .add 3 true (some t4) (some (.int .i64 1))) (fun x9 =>
  .jump (l109_9 t0 x8 x9 H nx)) .bad))) := by kernel_rfl
/-! kindling/anf.takes -/
noncomputable def l110_7 (t0 : Value) (t3 : Value) (H : T OB) (nx : Nat) : Cfg := .at ⟨110, 29, false, [], none, false⟩ (tmOf [(0, t0), (3, t3)]) (todoOf P 110 7) H nx
noncomputable def l110_15 (t0 : Value) (t3 : Value) (t4 : Value) (t16 : Value) (t17 : Value) (H : T OB) (nx : Nat) : Cfg := .at ⟨110, 29, false, [], none, false⟩ (tmOf [(0, t0), (3, t3), (4, t4), (16, t16), (17, t17)]) (todoOf P 110 15) H nx
theorem q110 (a0 : Value) (H : T OB) (nx : Nat) : evT P pl (.call 110 [a0] false none H nx) =
  .jump (l110_7 a0 (.int .i64 1) H nx) := by kernel_rfl
theorem q110_7 (t0 : Value) (t3 : Value) (H : T OB) (nx : Nat) : evT P pl (l110_7 t0 t3 H nx) =
  optK (rdBin P H .leq 3 true (some t3) (some (.int .i64 2))) (fun x0 =>
  bvK x0 (fun b1 => bK b1
 (effQ (efMakeSlice P H nx 23 (some t3) (some t3)) (fun x2 H nx =>
  optK (rdBuild P 25 (some [(0, (.int .i64 12)), (1, t0), (5, x2)])) (fun x3 =>
  effQ (efAlloc P H nx 25) (fun x4 H nx =>
  frSt P H nx 25 (some x4) x3 (fun H nx =>
  optK (rdFieldAddr P 25 (some (eptrV x3)) 5) (fun x5 =>
  optK (rdLoad P H 23 (some x5)) (fun x6 =>
  optK (rdLen P #[23] 3 (some [x6])) (fun x7 =>
  .jump (l110_15 t0 t3 (eptrV x3) x7 (.int .i64 0) H nx)) .bad) .bad) .bad))) .bad))
 (.ret ⟨.ret (.int .i64 0), false, H, nx⟩)) .bad) .bad := by kernel_rfl
theorem q110_15 (t0 : Value) (t3 : Value) (t4 : Value) (t16 : Value) (t17 : Value) (H : T OB) (nx : Nat) : evT P pl (l110_15 t0 t3 t4 t16 t17 H nx) =
  optK (rdBin P H .lss 3 false (some t17) (some t16)) (fun x0 =>
  bvK x0 (fun b1 => bK b1
 (optK (rdFieldAddr P 25 (some t4) 5) (fun x2 =>
  optK (rdLoad P H 23 (some x2)) (fun x3 =>
  optK (rdIndexAddr P 23 (some x3) (some t17)) (fun x4 =>
  optK (rdFieldAddr P 25 (some x4) 0) (fun x5 =>
  effQ (efStore P H nx 3 (some x5) (some (.int .i64 1))) (fun x6 H nx =>
  optK (rdBin P H .add 3 true (some t17) (some (.int .i64 1))) (fun x7 =>
  .jump (l110_15 t0 t3 t4 t16 x7 H nx)) .bad)) .bad) .bad) .bad) .bad)
 (optK (rdLoad P H 25 (some t4)) (fun x8 =>
  callQ (.call 33 [x8] false none H nx) (fun x9 H nx =>
  bvK x9 (fun b10 => bK b10
 (.ret ⟨.ret t3, false, H, nx⟩)
 (optK (rdBin P H .add 3 true (some t3) (some (.int .i64 1))) (fun x11 =>
  .jump (l110_7 t0 x11 H nx)) .bad)) .bad) panK) .bad)) .bad) .bad := by kernel_rfl
/-! (*kindling/anf.reader).atom -/
theorem q111 (a0 : Value) (a1 : Value) (a2 : Value) (H : T OB) (nx : Nat) : evT P pl (.call 111 [a0, a1, a2] false none H nx) =
  natF (Nat.succ nx) (fun nx =>
  optK (rdFieldAddr P 71 (some (eptrV a1)) 1) (fun x0 =>
  optK (rdLoad P H 3 (some x0)) (fun x1 =>
  optK (rdBin P H .eql 3 true (some x1) (some (.int .i64 0))) (fun x2 =>
  bvK x2 (fun b3 => optK (rdFieldAddr P 71 (some (eptrV a1)) 2) (fun x4 =>
  optK (rdLoad P H 2 (some x4)) (fun x5 =>
  optK (rdBin P H .eql 2 true (some x5) (some (.int .i64 0))) (fun x6 =>
  bvK x6 (fun b7 => optK (rdFieldAddr P 71 (some (eptrV a1)) 3) (fun x8 =>
  optK (rdLoad P H 9 (some x8)) (fun x9 =>
  optK (rdBin P H .eql 9 true (some x9) (some (.string ⟨⟨[]⟩⟩))) (fun x10 =>
  bvK x10 (fun b11 => optK (rdFieldAddr P 71 (some (eptrV a1)) 0) (fun x12 =>
  optK (rdLoad P H 3 (some x12)) (fun x13 =>
  optK (rdBin P H .eql 3 true (some x13) (some (.int .i64 1))) (fun x14 =>
  bvK x14 (fun b15 => bK b15
 (bK b3 (bK b11 (optK (rdFieldAddr P 71 (some (eptrV a1)) 2) (fun x16 =>
  optK (rdLoad P H 2 (some x16)) (fun x17 =>
  callQ (.call 91 [x17] false none H nx) (fun x18 H nx =>
  bvK x18 (fun b19 => .ret ⟨.ret (.bool b19), false, H, nx⟩) .bad) panK) .bad) .bad) (.ret ⟨.ret (.bool false), false, H, nx⟩)) (.ret ⟨.ret (.bool false), false, H, nx⟩))
 (optK (rdBin P H .eql 3 true (some x13) (some (.int .i64 2))) (fun x20 =>
  bvK x20 (fun b21 => bK b21
 (bK b3 (.ret ⟨.ret (.bool b7), false, H, nx⟩) (.ret ⟨.ret (.bool false), false, H, nx⟩))
 (optK (rdBin P H .eql 3 true (some x13) (some (.int .i64 3))) (fun x22 =>
  bvK x22 (fun b23 => bK b23
 (bK b7 (bK b11 (optK (rdFieldAddr P 71 (some (eptrV a1)) 1) (fun x24 =>
  optK (rdLoad P H 3 (some x24)) (fun x25 =>
  optK (rdBin P H .geq 3 true (some x25) (some (.int .i64 0))) (fun x26 =>
  bvK x26 (fun b27 => bK b27 (optK (rdFieldAddr P 71 (some (eptrV a1)) 1) (fun x28 =>
  optK (rdLoad P H 3 (some x28)) (fun x29 =>
  optK (rdNil (some a0)) (fun x30 =>
  optK (rdFieldAddr P 95 (some x30) 1) (fun x31 =>
  optK (rdFieldAddr P 69 (some x31) 1) (fun x32 =>
  optK (rdLoad P H 3 (some x32)) (fun x33 =>
  optK (rdBin P H .lss 3 false (some x29) (some x33)) (fun x34 =>
  bvK x34 (fun b35 => bK b35 (optK (rdFieldAddr P 71 (some (eptrV a1)) 1) (fun x36 =>
  optK (rdLoad P H 3 (some x36)) (fun x37 =>
  callQ (.call 138 [a2, x37] false none H nx) (fun x38 H nx =>
  bvK x38 (fun b39 => .ret ⟨.ret (.bool b39), false, H, nx⟩) .bad) panK) .bad) .bad) (.ret ⟨.ret (.bool false), false, H, nx⟩)) .bad) .bad) .bad) .bad) .bad) .bad) .bad) .bad) (.ret ⟨.ret (.bool false), false, H, nx⟩)) .bad) .bad) .bad) .bad) (.ret ⟨.ret (.bool false), false, H, nx⟩)) (.ret ⟨.ret (.bool false), false, H, nx⟩))
 (optK (rdBin P H .eql 3 true (some x13) (some (.int .i64 4))) (fun x40 =>
  bvK x40 (fun b41 => bK b41
 (bK b3 (bK b7 (bK b11 (optK (rdNil (some a0)) (fun x42 =>
  optK (rdFieldAddr P 95 (some x42) 2) (fun x43 =>
  optK (rdLoad P H 3 (some x43)) (fun x44 =>
  optK (rdBin P H .gtr 3 true (some x44) (some (.int .i64 0))) (fun x45 =>
  bvK x45 (fun b46 => .ret ⟨.ret (.bool b46), false, H, nx⟩) .bad) .bad) .bad) .bad) .bad) (.ret ⟨.ret (.bool false), false, H, nx⟩)) (.ret ⟨.ret (.bool false), false, H, nx⟩)) (.ret ⟨.ret (.bool false), false, H, nx⟩))
 (optK (rdBin P H .eql 3 true (some x13) (some (.int .i64 5))) (fun x47 =>
  bvK x47 (fun b48 => bK b48
 (bK b7 (bK b11 (optK (rdFieldAddr P 71 (some (eptrV a1)) 1) (fun x49 =>
  optK (rdLoad P H 3 (some x49)) (fun x50 =>
  optK (rdBin P H .geq 3 true (some x50) (some (.int .i64 0))) (fun x51 =>
  bvK x51 (fun b52 => bK b52 (optK (rdFieldAddr P 71 (some (eptrV a1)) 1) (fun x53 =>
  optK (rdLoad P H 3 (some x53)) (fun x54 =>
  optK (rdNil (some a0)) (fun x55 =>
  optK (rdFieldAddr P 95 (some x55) 1) (fun x56 =>
  optK (rdFieldAddr P 69 (some x56) 0) (fun x57 =>
  optK (rdLoad P H 3 (some x57)) (fun x58 =>
  optK (rdBin P H .lss 3 false (some x54) (some x58)) (fun x59 =>
  bvK x59 (fun b60 => .ret ⟨.ret (.bool b60), false, H, nx⟩) .bad) .bad) .bad) .bad) .bad) .bad) .bad) .bad) (.ret ⟨.ret (.bool false), false, H, nx⟩)) .bad) .bad) .bad) .bad) (.ret ⟨.ret (.bool false), false, H, nx⟩)) (.ret ⟨.ret (.bool false), false, H, nx⟩))
 (optK (rdBin P H .eql 3 true (some x13) (some (.int .i64 6))) (fun x61 =>
  bvK x61 (fun b62 => bK b62
 (bK b7 (bK b11 (optK (rdFieldAddr P 71 (some (eptrV a1)) 1) (fun x63 =>
  optK (rdLoad P H 3 (some x63)) (fun x64 =>
  optK (rdBin P H .geq 3 true (some x64) (some (.int .i64 0))) (fun x65 =>
  bvK x65 (fun b66 => bK b66 (optK (rdFieldAddr P 71 (some (eptrV a1)) 1) (fun x67 =>
  optK (rdLoad P H 3 (some x67)) (fun x68 =>
  optK (rdBin P H .lss 3 true (some x68) (some (.int .i64 1024))) (fun x69 =>
  bvK x69 (fun b70 => .ret ⟨.ret (.bool b70), false, H, nx⟩) .bad) .bad) .bad) .bad) (.ret ⟨.ret (.bool false), false, H, nx⟩)) .bad) .bad) .bad) .bad) (.ret ⟨.ret (.bool false), false, H, nx⟩)) (.ret ⟨.ret (.bool false), false, H, nx⟩))
 (.ret ⟨.ret (.bool false), false, H, nx⟩)) .bad) .bad)) .bad) .bad)) .bad) .bad)) .bad) .bad)) .bad) .bad)) .bad) .bad) .bad) .bad) .bad) .bad) .bad) .bad) .bad) .bad) .bad) .bad) .bad) .bad) .bad) .bad) := by kernel_rfl
/-! kindling/isa.Name -/
noncomputable def l112_8 (t0 : Value) (t3 : Value) (t10 : Bool) (H : T OB) (nx : Nat) : Cfg := .at ⟨112, 14, false, [], none, false⟩ (tmOf [(0, t0), (3, t3), (10, .bool t10)]) (todoOf P 112 8) H nx
theorem q112 (a0 : Value) (H : T OB) (nx : Nat) : evT P pl (.call 112 [a0] false none H nx) =
  effQ (efAlloc P H nx 203) (fun x0 H nx =>
  effQ (efStore P H nx 203 (some x0) (some (.agg ⟨[(.string ⟨⟨[]⟩⟩), (.string ⟨⟨[105, 110, 116]⟩⟩), (.string ⟨⟨[108, 105, 116]⟩⟩), (.string ⟨⟨[109, 111, 118, 101]⟩⟩), (.string ⟨⟨[112, 117, 116]⟩⟩), (.string ⟨⟨[108, 111, 97, 100]⟩⟩), (.string ⟨⟨[115, 97, 118, 101]⟩⟩), (.string ⟨⟨[97, 100, 100]⟩⟩), (.string ⟨⟨[115, 117, 98]⟩⟩), (.string ⟨⟨[109, 117, 108]⟩⟩), (.string ⟨⟨[100, 105, 118]⟩⟩), (.string ⟨⟨[109, 111, 100]⟩⟩), (.string ⟨⟨[110, 101, 103]⟩⟩), (.string ⟨⟨[108, 101, 115, 115]⟩⟩), (.string ⟨⟨[97, 116, 109, 111, 115, 116]⟩⟩), (.string ⟨⟨[115, 97, 109, 101]⟩⟩), (.string ⟨⟨[116, 117, 112, 108, 101]⟩⟩), (.string ⟨⟨[99, 108, 111, 115, 117, 114, 101]⟩⟩), (.string ⟨⟨[114, 101, 102]⟩⟩), (.string ⟨⟨[102, 105, 101, 108, 100]⟩⟩), (.string ⟨⟨[102, 105, 108, 108]⟩⟩), (.string ⟨⟨[97, 115, 115, 105, 103, 110]⟩⟩), (.string ⟨⟨[116, 97, 103]⟩⟩), (.string ⟨⟨[106, 117, 109, 112]⟩⟩), (.string ⟨⟨[117, 110, 108, 101, 115, 115]⟩⟩), (.string ⟨⟨[101, 110, 116, 101, 114]⟩⟩), (.string ⟨⟨[99, 97, 108, 108]⟩⟩), (.string ⟨⟨[116, 97, 105, 108]⟩⟩), (.string ⟨⟨[114, 101, 116, 117, 114, 110]⟩⟩), (.string ⟨⟨[104, 97, 110, 100, 108, 101]⟩⟩), (.string ⟨⟨[117, 110, 104, 97, 110, 100, 108, 101]⟩⟩), (.string ⟨⟨[114, 97, 105, 115, 101]⟩⟩), (.string ⟨⟨[106, 111, 105, 110]⟩⟩), (.string ⟨⟨[115, 105, 122, 101]⟩⟩), (.string ⟨⟨[115, 116, 114]⟩⟩), (.string ⟨⟨[111, 114, 100]⟩⟩), (.string ⟨⟨[100, 105, 103, 105, 116, 115]⟩⟩)]⟩))) (fun x1 H nx =>
  optK (rdBin P H .lss 3 true (some a0) (some (.int .i64 1))) (fun x2 =>
  bvK x2 (fun b3 => bK b3 (.jump (l112_8 a0 x0 true H nx)) (optK (rdBin P H .geq 3 true (some a0) (some (.int .i64 37))) (fun x4 =>
  bvK x4 (fun b5 => .jump (l112_8 a0 x0 b5 H nx)) .bad) .bad)) .bad) .bad)) := by kernel_rfl
theorem q112_8 (t0 : Value) (t3 : Value) (t10 : Bool) (H : T OB) (nx : Nat) : evT P pl (l112_8 t0 t3 t10 H nx) =
  bK t10
 (.ret ⟨.ret (.string ⟨⟨[]⟩⟩), false, H, nx⟩)
 (optK (rdIndexAddr P 203 (some t3) (some t0)) (fun x0 =>
  optK (rdLoad P H 9 (some x0)) (fun x1 =>
  .ret ⟨.ret x1, false, H, nx⟩) .bad) .bad) := by kernel_rfl
/-! kindling/core.Text -/
theorem q113 (a0 : Value) (H : T OB) (nx : Nat) : evT P pl (.call 113 [a0] false none H nx) =
  natF (Nat.succ nx) (fun nx =>
  optK (rdLoad P H 25 (some (eptrV a0))) (fun x0 =>
  callQ (.call 33 [x0] false none H nx) (fun x1 H nx =>
  bvK x1 (fun b2 => optK (unV P .not (some (.bool b2))) (fun x3 =>
  bvK x3 (fun b4 => bK b4
 (.ret ⟨.ret (.string ⟨⟨[]⟩⟩), false, H, nx⟩)
 (optK (rdLoad P H 25 (some (eptrV a0))) (fun x5 =>
  callQ (.call 139 [(.slice none 0 0), x5] false none H nx) (fun x6 H nx =>
  optK (rdConv P H 100 9 (some x6)) (fun x7 =>
  .ret ⟨.ret x7, false, H, nx⟩) .bad) panK) .bad)) .bad) .bad) .bad) panK) .bad) := by kernel_rfl
/-! kindling/kindlingref03.Find -/
noncomputable def l114_8 (t0 : Value) (t2 : Value) (t4 : Value) (t13 : Bool) (H : T OB) (nx : Nat) : Cfg := .at ⟨114, 19, false, [], none, false⟩ (tmOf [(0, t0), (2, t2), (4, t4), (13, .bool t13)]) (todoOf P 114 8) H nx
theorem q114 (a0 : Value) (H : T OB) (nx : Nat) : evT P pl (.call 114 [a0] false none H nx) =
  effQ (efAlloc P H nx 177) (fun x0 H nx =>
  callQ (.call 140 [] false none H nx) (fun x1 H nx =>
  optK (rdBin P H .lss 3 true (some a0) (some (.int .i64 1))) (fun x2 =>
  bvK x2 (fun b3 => bK b3 (.jump (l114_8 a0 x0 x1 true H nx)) (optK (rdLen P #[205] 3 (some [x1])) (fun x4 =>
  optK (rdBin P H .geq 3 false (some a0) (some x4)) (fun x5 =>
  bvK x5 (fun b6 => .jump (l114_8 a0 x0 x1 b6 H nx)) .bad) .bad) .bad)) .bad) .bad) panK) := by kernel_rfl
theorem q114_8 (t0 : Value) (t2 : Value) (t4 : Value) (t13 : Bool) (H : T OB) (nx : Nat) : evT P pl (l114_8 t0 t2 t4 t13 H nx) =
  bK t13
 (effQ (efStore P H nx 177 (some t2) (some (.agg ⟨[(.string ⟨⟨[]⟩⟩), (.string ⟨⟨[]⟩⟩), (.string ⟨⟨[]⟩⟩), (.string ⟨⟨[]⟩⟩)]⟩))) (fun x0 H nx =>
  optK (rdLoad P H 177 (some t2)) (fun x1 =>
  .ret ⟨.ret (.tuple ⟨[x1, (.bool false)]⟩), false, H, nx⟩) .bad))
 (optK (rdIndexAddr P 205 (some t4) (some t0)) (fun x2 =>
  optK (rdLoad P H 177 (some x2)) (fun x3 =>
  effQ (efStore P H nx 177 (some t2) (some x3)) (fun x4 H nx =>
  optK (rdLoad P H 177 (some t2)) (fun x5 =>
  .ret ⟨.ret (.tuple ⟨[x5, (.bool true)]⟩), false, H, nx⟩) .bad)) .bad) .bad) := by kernel_rfl
/-! kindling/kindlingref11.atomText -/
theorem q115 (a0 : Value) (H : T OB) (nx : Nat) : evT P pl (.call 115 [a0] false none H nx) =
  natF (Nat.succ nx) (fun nx =>
  optK (rdFieldAddr P 71 (some (eptrV a0)) 0) (fun x0 =>
  optK (rdLoad P H 3 (some x0)) (fun x1 =>
  optK (rdBin P H .eql 3 true (some x1) (some (.int .i64 2))) (fun x2 =>
  bvK x2 (fun b3 => bK b3
 (optK (rdFieldAddr P 71 (some (eptrV a0)) 3) (fun x4 =>
  optK (rdLoad P H 9 (some x4)) (fun x5 =>
  callQ (.call 109 [x5] false none H nx) (fun x6 H nx =>
  .ret ⟨.ret x6, false, H, nx⟩) panK) .bad) .bad)
 (optK (rdBin P H .eql 3 true (some x1) (some (.int .i64 3))) (fun x7 =>
  bvK x7 (fun b8 => bK b8
 (optK (rdFieldAddr P 71 (some (eptrV a0)) 1) (fun x9 =>
  optK (rdLoad P H 3 (some x9)) (fun x10 =>
  callQ (.call 51 [x10] false none H nx) (fun x11 H nx =>
  optK (rdBin P H .add 9 true (some (.string ⟨⟨[37]⟩⟩)) (some x11)) (fun x12 =>
  .ret ⟨.ret x12, false, H, nx⟩) .bad) panK) .bad) .bad)
 (optK (rdBin P H .eql 3 true (some x1) (some (.int .i64 4))) (fun x13 =>
  bvK x13 (fun b14 => bK b14
 (.ret ⟨.ret (.string ⟨⟨[97, 114, 103]⟩⟩), false, H, nx⟩)
 (optK (rdBin P H .eql 3 true (some x1) (some (.int .i64 5))) (fun x15 =>
  bvK x15 (fun b16 => bK b16
 (optK (rdFieldAddr P 71 (some (eptrV a0)) 1) (fun x17 =>
  optK (rdLoad P H 3 (some x17)) (fun x18 =>
  callQ (.call 51 [x18] false none H nx) (fun x19 H nx =>
  optK (rdBin P H .add 9 true (some (.string ⟨⟨[94]⟩⟩)) (some x19)) (fun x20 =>
  .ret ⟨.ret x20, false, H, nx⟩) .bad) panK) .bad) .bad)
 (optK (rdBin P H .eql 3 true (some x1) (some (.int .i64 6))) (fun x21 =>
  bvK x21 (fun b22 => bK b22
 (optK (rdFieldAddr P 71 (some (eptrV a0)) 1) (fun x23 =>
  optK (rdLoad P H 3 (some x23)) (fun x24 =>
  callQ (.call 51 [x24] false none H nx) (fun x25 H nx =>
  optK (rdBin P H .add 9 true (some (.string ⟨⟨[36]⟩⟩)) (some x25)) (fun x26 =>
  .ret ⟨.ret x26, false, H, nx⟩) .bad) panK) .bad) .bad)
 (optK (rdFieldAddr P 71 (some (eptrV a0)) 2) (fun x27 =>
  optK (rdLoad P H 2 (some x27)) (fun x28 =>
  callQ (.call 86 [x28] false none H nx) (fun x29 H nx =>
  .ret ⟨.ret x29, false, H, nx⟩) panK) .bad) .bad)) .bad) .bad)) .bad) .bad)) .bad) .bad)) .bad) .bad)) .bad) .bad) .bad) .bad) := by kernel_rfl
/-! kindling/kindlingref11.has -/
noncomputable def l124_7 (t0 : Value) (t1 : Value) (t5 : Value) (H : T OB) (nx : Nat) : Cfg := .at ⟨124, 18, false, [], none, false⟩ (tmOf [(0, t0), (1, t1), (5, t5)]) (todoOf P 124 7) H nx
theorem q124 (a0 : Value) (a1 : Value) (H : T OB) (nx : Nat) : evT P pl (.call 124 [a0, a1] false none H nx) =
  .jump (l124_7 a0 a1 (.int .i64 0) H nx) := by kernel_rfl
theorem q124_7 (t0 : Value) (t1 : Value) (t5 : Value) (H : T OB) (nx : Nat) : evT P pl (l124_7 t0 t1 t5 H nx) =
  optK (rdLen P #[22] 3 (some [t0])) (fun x0 =>
  optK (rdBin P H .lss 3 false (some t5) (some x0)) (fun x1 =>
  bvK x1 (fun b2 => bK b2
 (optK (rdIndexAddr P 22 (some t0) (some t5)) (fun x3 =>
  optK (rdLoad P H 3 (some x3)) (fun x4 =>
  optK (rdBin P H .eql 3 false (some x4) (some t1)) (fun x5 =>
  bvK x5 (fun b6 => bK b6
 (.ret ⟨.ret (.bool true), false, H, nx⟩)
 (optK (rdBin P H .add 3 true (some t5) (some (.int .i64 1))) (fun x7 =>
  .jump (l124_7 t0 t1 x7 H nx)) .bad)) .bad) .bad) .bad) .bad)
 (.ret ⟨.ret (.bool false), false, H, nx⟩)) .bad) .bad) .bad := by kernel_rfl
/-! (*kindling/anf.seen).has -/
noncomputable def l138_5 (t0 : Value) (t1 : Value) (H : T OB) (nx : Nat) : Cfg := .at ⟨138, 17, false, [], none, false⟩ (tmOf [(0, t0), (1, t1)]) (todoOf P 138 5) H nx
theorem q138 (a0 : Value) (a1 : Value) (H : T OB) (nx : Nat) : evT P pl (.call 138 [a0, a1] false none H nx) =
  .jump (l138_5 a0 a1 H nx) := by kernel_rfl
theorem q138_5 (t0 : Value) (t1 : Value) (H : T OB) (nx : Nat) : evT P pl (l138_5 t0 t1 H nx) =
  optK (rdBin P H .neq 141 true (some t0) (some (.pointer none))) (fun x0 =>
  bvK x0 (fun b1 => bK b1
 (optK (rdNil (some t0)) (fun x2 =>
  optK (rdFieldAddr P 145 (some x2) 0) (fun x3 =>
  optK (rdLoad P H 3 (some x3)) (fun x4 =>
  optK (rdBin P H .eql 3 false (some x4) (some t1)) (fun x5 =>
  bvK x5 (fun b6 => bK b6
 (.ret ⟨.ret (.bool true), false, H, nx⟩)
 (optK (rdNil (some t0)) (fun x7 =>
  optK (rdFieldAddr P 145 (some x7) 1) (fun x8 =>
  optK (rdLoad P H 141 (some x8)) (fun x9 =>
  .jump (l138_5 x9 t1 H nx)) .bad) .bad) .bad)) .bad) .bad) .bad) .bad) .bad)
 (.ret ⟨.ret (.bool false), false, H, nx⟩)) .bad) .bad := by kernel_rfl
end
end Go.Proofs.YtfdgoenmdalphaaGreatDoor
