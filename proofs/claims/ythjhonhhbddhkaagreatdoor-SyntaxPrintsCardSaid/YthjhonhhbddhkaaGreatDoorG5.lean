/- What functions of the program say, as trees. -/
import Derived.Test.YthjhonhhbddhkaaGreatDoorG3
import Derived.KernelRfl
namespace Go.Proofs.YthjhonhhbddhkaaGreatDoor
open Go.Ev Go.RowKit
noncomputable section
set_option linter.unusedVariables false
set_option maxHeartbeats 8000000
def l81_67 (t1 t3 t4 t5 : Value) (H : T OB) (nx : Nat) : Cfg := .at ⟨81, 168, false, [], none, false⟩ (tmOf [(1, t1), (3, t3), (4, t4), (5, t5)]) (todoOf P 81 67) H nx
def l81_78 (t1 : Value) (H : T OB) (nx : Nat) : Cfg := .at ⟨81, 168, false, [], none, false⟩ (tmOf [(1, t1)]) (todoOf P 81 78) H nx
theorem q81 (a0 : Value) (H : T OB) (nx : Nat) : evT P pl (.call 81 [a0] false none H nx) =
 natF (Nat.succ nx) (fun nx =>
 optK (rdFieldAddr P 44 (some (eptrV a0)) 3) (fun x0 =>
 optK (rdLoad P H 41 (some x0)) (fun x1 =>
 callQ (.call 138 [x1] false none H nx) (fun x2 H nx =>
 optK (rdFieldAddr P 44 (some (eptrV a0)) 0) (fun x3 =>
 optK (rdLoad P H 3 (some x3)) (fun x4 =>
 optK (rdBin P H .eql 3 true (some x4) (some (.int .i64 1))) (fun x5 =>
 bvK x5 (fun b6 => bK b6
 (optK (rdFieldAddr P 44 (some (eptrV a0)) 1) (fun x7 =>
  optK (rdLoad P H 2 (some x7)) (fun x8 =>
  callQ (.call 136 [x8] false none H nx) (fun x9 H nx =>
  .ret ⟨.ret x9, false, H, nx⟩) panK) .bad) .bad)
 (optK (rdBin P H .eql 3 true (some x4) (some (.int .i64 2))) (fun x10 =>
  bvK x10 (fun b11 => bK b11
 (optK (rdFieldAddr P 44 (some (eptrV a0)) 2) (fun x12 =>
  optK (rdLoad P H 9 (some x12)) (fun x13 =>
  callQ (.call 118 [x13] false none H nx) (fun x14 H nx =>
  .ret ⟨.ret x14, false, H, nx⟩) panK) .bad) .bad)
 (optK (rdBin P H .eql 3 true (some x4) (some (.int .i64 5))) (fun x15 =>
  bvK x15 (fun b16 => bK b16
 (optK (rdLen P #[49] 3 (some [x2])) (fun x17 =>
  optK (rdBin P H .eql 3 true (some x17) (some (.int .i64 0))) (fun x18 =>
  bvK x18 (fun b19 => bK b19
 (.ret ⟨.ret (.string ⟨⟨[40, 32, 41]⟩⟩), false, H, nx⟩)
 (callQ (.call 83 [x2, (.string ⟨⟨[44]⟩⟩)] false none H nx) (fun x20 H nx =>
  callQ (.call 85 [x20] false none H nx) (fun x21 H nx =>
  .ret ⟨.ret x21, false, H, nx⟩) panK) panK)) .bad) .bad) .bad)
 (optK (rdBin P H .eql 3 true (some x4) (some (.int .i64 13))) (fun x22 =>
  bvK x22 (fun b23 => bK b23
 (callQ (.call 83 [x2, (.string ⟨⟨[59]⟩⟩)] false none H nx) (fun x24 H nx =>
  callQ (.call 85 [x24] false none H nx) (fun x25 H nx =>
  .ret ⟨.ret x25, false, H, nx⟩) panK) panK)
 (optK (rdBin P H .eql 3 true (some x4) (some (.int .i64 6))) (fun x26 =>
  bvK x26 (fun b27 => bK b27
 (optK (rdIndexAddr P 49 (some x2) (some (.int .i64 0))) (fun x28 =>
  optK (rdLoad P H 9 (some x28)) (fun x29 =>
  optK (rdBin P H .add 9 true (some x29) (some (.string ⟨⟨[32]⟩⟩))) (fun x30 =>
  optK (rdIndexAddr P 49 (some x2) (some (.int .i64 1))) (fun x31 =>
  optK (rdLoad P H 9 (some x31)) (fun x32 =>
  optK (rdBin P H .add 9 false (some x30) (some x32)) (fun x33 =>
  .ret ⟨.ret x33, false, H, nx⟩) .bad) .bad) .bad) .bad) .bad) .bad)
 (optK (rdBin P H .eql 3 true (some x4) (some (.int .i64 7))) (fun x34 =>
  bvK x34 (fun b35 => bK b35
 (optK (rdFieldAddr P 44 (some (eptrV a0)) 4) (fun x36 =>
  optK (rdLoad P H 42 (some x36)) (fun x37 =>
  optK (rdFieldAddr P 44 (some (eptrV a0)) 3) (fun x38 =>
  optK (rdLoad P H 41 (some x38)) (fun x39 =>
  callQ (.call 139 [x37, x39] false none H nx) (fun x40 H nx =>
  optK (rdBin P H .add 9 true (some (.string ⟨⟨[102, 110, 32]⟩⟩)) (some x40)) (fun x41 =>
  .ret ⟨.ret x41, false, H, nx⟩) .bad) panK) .bad) .bad) .bad) .bad)
 (optK (rdBin P H .eql 3 true (some x4) (some (.int .i64 8))) (fun x42 =>
  bvK x42 (fun b43 => bK b43
 (optK (rdIndexAddr P 49 (some x2) (some (.int .i64 0))) (fun x44 =>
  optK (rdLoad P H 9 (some x44)) (fun x45 =>
  optK (rdBin P H .add 9 true (some (.string ⟨⟨[105, 102, 32]⟩⟩)) (some x45)) (fun x46 =>
  optK (rdBin P H .add 9 true (some x46) (some (.string ⟨⟨[32, 116, 104, 101, 110, 32]⟩⟩))) (fun x47 =>
  optK (rdIndexAddr P 49 (some x2) (some (.int .i64 1))) (fun x48 =>
  optK (rdLoad P H 9 (some x48)) (fun x49 =>
  optK (rdBin P H .add 9 false (some x47) (some x49)) (fun x50 =>
  optK (rdBin P H .add 9 true (some x50) (some (.string ⟨⟨[32, 101, 108, 115, 101, 32]⟩⟩))) (fun x51 =>
  optK (rdIndexAddr P 49 (some x2) (some (.int .i64 2))) (fun x52 =>
  optK (rdLoad P H 9 (some x52)) (fun x53 =>
  optK (rdBin P H .add 9 false (some x51) (some x53)) (fun x54 =>
  .ret ⟨.ret x54, false, H, nx⟩) .bad) .bad) .bad) .bad) .bad) .bad) .bad) .bad) .bad) .bad) .bad)
 (optK (rdBin P H .eql 3 true (some x4) (some (.int .i64 9))) (fun x55 =>
  bvK x55 (fun b56 => bK b56
 (optK (rdIndexAddr P 49 (some x2) (some (.int .i64 0))) (fun x57 =>
  optK (rdLoad P H 9 (some x57)) (fun x58 =>
  optK (rdBin P H .add 9 true (some (.string ⟨⟨[99, 97, 115, 101, 32]⟩⟩)) (some x58)) (fun x59 =>
  optK (rdBin P H .add 9 true (some x59) (some (.string ⟨⟨[32, 111, 102, 32]⟩⟩))) (fun x60 =>
  optK (rdFieldAddr P 44 (some (eptrV a0)) 4) (fun x61 =>
  optK (rdLoad P H 42 (some x61)) (fun x62 =>
  optK (rdFieldAddr P 44 (some (eptrV a0)) 3) (fun x63 =>
  optK (rdLoad P H 41 (some x63)) (fun x64 =>
  optK (rdSlice P H 41 (some x64) (some (some (.int .i64 1))) (some none) (some none)) (fun x65 =>
  callQ (.call 139 [x62, x65] false none H nx) (fun x66 H nx =>
  bK (optK (rdBin P H .add 9 true (some x59) (some (.string ⟨⟨[32, 111, 102, 32]⟩⟩))) (fun u => vEq u x60) false && (optK (rdBin P H .add 9 true (some (.string ⟨⟨[99, 97, 115, 101, 32]⟩⟩)) (some x58)) (fun u => vEq u x59) false && (optK (rdLoad P H 9 (some x57)) (fun u => vEq u x58) false && true))) (optK (rdBin P H .add 9 false (some x60) (some x66)) (fun x67 =>
  .ret ⟨.ret x67, false, H, nx⟩) .bad) .bad) panK) .bad) .bad) .bad) .bad) .bad) .bad) .bad) .bad) .bad)
 (optK (rdBin P H .eql 3 true (some x4) (some (.int .i64 12))) (fun x68 =>
  bvK x68 (fun b69 => bK b69
 (optK (rdIndexAddr P 49 (some x2) (some (.int .i64 0))) (fun x70 =>
  optK (rdLoad P H 9 (some x70)) (fun x71 =>
  optK (rdBin P H .add 9 true (some x71) (some (.string ⟨⟨[32, 104, 97, 110, 100, 108, 101, 32]⟩⟩))) (fun x72 =>
  optK (rdFieldAddr P 44 (some (eptrV a0)) 4) (fun x73 =>
  optK (rdLoad P H 42 (some x73)) (fun x74 =>
  optK (rdFieldAddr P 44 (some (eptrV a0)) 3) (fun x75 =>
  optK (rdLoad P H 41 (some x75)) (fun x76 =>
  optK (rdSlice P H 41 (some x76) (some (some (.int .i64 1))) (some none) (some none)) (fun x77 =>
  callQ (.call 139 [x74, x77] false none H nx) (fun x78 H nx =>
  bK (optK (rdBin P H .add 9 true (some x71) (some (.string ⟨⟨[32, 104, 97, 110, 100, 108, 101, 32]⟩⟩))) (fun u => vEq u x72) false && (optK (rdLoad P H 9 (some x70)) (fun u => vEq u x71) false && true)) (optK (rdBin P H .add 9 false (some x72) (some x78)) (fun x79 =>
  .ret ⟨.ret x79, false, H, nx⟩) .bad) .bad) panK) .bad) .bad) .bad) .bad) .bad) .bad) .bad) .bad)
 (optK (rdBin P H .eql 3 true (some x4) (some (.int .i64 11))) (fun x80 =>
  bvK x80 (fun b81 => bK b81
 (optK (rdIndexAddr P 49 (some x2) (some (.int .i64 0))) (fun x82 =>
  optK (rdLoad P H 9 (some x82)) (fun x83 =>
  optK (rdBin P H .add 9 true (some (.string ⟨⟨[114, 97, 105, 115, 101, 32]⟩⟩)) (some x83)) (fun x84 =>
  .ret ⟨.ret x84, false, H, nx⟩) .bad) .bad) .bad)
 (optK (rdBin P H .eql 3 true (some x4) (some (.int .i64 14))) (fun x85 =>
  bvK x85 (fun b86 => bK b86
 (optK (rdIndexAddr P 49 (some x2) (some (.int .i64 0))) (fun x87 =>
  optK (rdLoad P H 9 (some x87)) (fun x88 =>
  optK (rdBin P H .add 9 true (some x88) (some (.string ⟨⟨[32]⟩⟩))) (fun x89 =>
  optK (rdFieldAddr P 44 (some (eptrV a0)) 2) (fun x90 =>
  optK (rdLoad P H 9 (some x90)) (fun x91 =>
  optK (rdBin P H .add 9 false (some x89) (some x91)) (fun x92 =>
  optK (rdBin P H .add 9 true (some x92) (some (.string ⟨⟨[32]⟩⟩))) (fun x93 =>
  optK (rdIndexAddr P 49 (some x2) (some (.int .i64 1))) (fun x94 =>
  optK (rdLoad P H 9 (some x94)) (fun x95 =>
  optK (rdBin P H .add 9 false (some x93) (some x95)) (fun x96 =>
  .ret ⟨.ret x96, false, H, nx⟩) .bad) .bad) .bad) .bad) .bad) .bad) .bad) .bad) .bad) .bad)
 (optK (rdBin P H .eql 3 true (some x4) (some (.int .i64 15))) (fun x97 =>
  bvK x97 (fun b98 => bK b98
 (optK (rdFieldAddr P 44 (some (eptrV a0)) 2) (fun x99 =>
  optK (rdLoad P H 9 (some x99)) (fun x100 =>
  optK (rdBin P H .add 9 true (some x100) (some (.string ⟨⟨[32]⟩⟩))) (fun x101 =>
  optK (rdIndexAddr P 49 (some x2) (some (.int .i64 0))) (fun x102 =>
  optK (rdLoad P H 9 (some x102)) (fun x103 =>
  optK (rdBin P H .add 9 false (some x101) (some x103)) (fun x104 =>
  .ret ⟨.ret x104, false, H, nx⟩) .bad) .bad) .bad) .bad) .bad) .bad)
 (optK (rdBin P H .eql 3 true (some x4) (some (.int .i64 10))) (fun x105 =>
  bvK x105 (fun b106 => bK b106
 (.jump (l81_67 (eptrV a0) x2 (.string ⟨⟨[108, 101, 116, 32]⟩⟩) (.int .i64 0) H nx))
 (.jump (l81_78 (eptrV a0) H nx))) .bad) .bad)) .bad) .bad)) .bad) .bad)) .bad) .bad)) .bad) .bad)) .bad) .bad)) .bad) .bad)) .bad) .bad)) .bad) .bad)) .bad) .bad)) .bad) .bad)) .bad) .bad)) .bad) .bad) .bad) .bad) panK) .bad) .bad) := by kernel_rfl
theorem q81_67 (t1 t3 t4 t5 : Value) (H : T OB) (nx : Nat) : evT P pl (l81_67 t1 t3 t4 t5 H nx) =
 optK (rdFieldAddr P 44 (some t1) 5) (fun x0 =>
 optK (rdLoad P H 24 (some x0)) (fun x1 =>
 optK (rdLen P #[24] 3 (some [x1])) (fun x2 =>
 optK (rdBin P H .lss 3 false (some t5) (some x2)) (fun x3 =>
 bvK x3 (fun b4 => bK b4
 (optK (rdFieldAddr P 44 (some t1) 5) (fun x5 =>
  optK (rdLoad P H 24 (some x5)) (fun x6 =>
  optK (rdIndexAddr P 24 (some x6) (some t5)) (fun x7 =>
  optK (rdLoad P H 57 (some x7)) (fun x8 =>
  callQ (.call 44 [x8] false none H nx) (fun x9 H nx =>
  optK (rdBin P H .add 9 false (some t4) (some x9)) (fun x10 =>
  optK (rdBin P H .add 9 true (some x10) (some (.string ⟨⟨[32, 59, 32]⟩⟩))) (fun x11 =>
  optK (rdBin P H .add 3 true (some t5) (some (.int .i64 1))) (fun x12 =>
  .jump (l81_67 t1 t3 x11 x12 H nx)) .bad) .bad) .bad) panK) .bad) .bad) .bad) .bad)
 (optK (rdFieldAddr P 44 (some t1) 3) (fun x13 =>
  optK (rdLoad P H 41 (some x13)) (fun x14 =>
  optK (rdIndexAddr P 41 (some x14) (some (.int .i64 0))) (fun x15 =>
  optK (rdFieldAddr P 44 (some x15) 0) (fun x16 =>
  optK (rdLoad P H 3 (some x16)) (fun x17 =>
  optK (rdBin P H .eql 3 true (some x17) (some (.int .i64 13))) (fun x18 =>
  bvK x18 (fun b19 => bK b19
 (optK (rdBin P H .add 9 true (some t4) (some (.string ⟨⟨[105, 110, 32]⟩⟩))) (fun x20 =>
  optK (rdFieldAddr P 44 (some t1) 3) (fun x21 =>
  optK (rdLoad P H 41 (some x21)) (fun x22 =>
  optK (rdIndexAddr P 41 (some x22) (some (.int .i64 0))) (fun x23 =>
  optK (rdFieldAddr P 44 (some x23) 3) (fun x24 =>
  optK (rdLoad P H 41 (some x24)) (fun x25 =>
  callQ (.call 138 [x25] false none H nx) (fun x26 H nx =>
  callQ (.call 83 [x26, (.string ⟨⟨[59]⟩⟩)] false none H nx) (fun x27 H nx =>
  optK (rdBin P H .add 9 false (some x20) (some x27)) (fun x28 =>
  optK (rdBin P H .add 9 true (some x28) (some (.string ⟨⟨[32, 101, 110, 100]⟩⟩))) (fun x29 =>
  .ret ⟨.ret x29, false, H, nx⟩) .bad) .bad) panK) panK) .bad) .bad) .bad) .bad) .bad) .bad)
 (optK (rdBin P H .add 9 true (some t4) (some (.string ⟨⟨[105, 110, 32]⟩⟩))) (fun x30 =>
  optK (rdIndexAddr P 49 (some t3) (some (.int .i64 0))) (fun x31 =>
  optK (rdLoad P H 9 (some x31)) (fun x32 =>
  optK (rdBin P H .add 9 false (some x30) (some x32)) (fun x33 =>
  optK (rdBin P H .add 9 true (some x33) (some (.string ⟨⟨[32, 101, 110, 100]⟩⟩))) (fun x34 =>
  .ret ⟨.ret x34, false, H, nx⟩) .bad) .bad) .bad) .bad) .bad)) .bad) .bad) .bad) .bad) .bad) .bad) .bad)) .bad) .bad) .bad) .bad) .bad := by kernel_rfl
theorem q81_78 (t1 : Value) (H : T OB) (nx : Nat) : evT P pl (l81_78 t1 H nx) =
 optK (rdFieldAddr P 44 (some t1) 2) (fun x0 =>
 optK (rdLoad P H 9 (some x0)) (fun x1 =>
 .ret ⟨.ret x1, false, H, nx⟩) .bad) .bad := by kernel_rfl
def l82_9 (t0 t3 t4 : Value) (H : T OB) (nx : Nat) : Cfg := .at ⟨82, 20, false, [], none, false⟩ (tmOf [(0, t0), (3, t3), (4, t4)]) (todoOf P 82 9) H nx
theorem q82 (a0 : Value) (H : T OB) (nx : Nat) : evT P pl (.call 82 [a0] false none H nx) =
 .jump (l82_9 a0 (.slice none 0 0) (.int .i64 0) H nx) := by kernel_rfl
theorem q82_9 (t0 t3 t4 : Value) (H : T OB) (nx : Nat) : evT P pl (l82_9 t0 t3 t4 H nx) =
 optK (rdLen P #[42] 3 (some [t0])) (fun x0 =>
 optK (rdBin P H .lss 3 false (some t4) (some x0)) (fun x1 =>
 bvK x1 (fun b2 => bK b2
 (optK (rdIndexAddr P 42 (some t0) (some t4)) (fun x3 =>
  optK (rdLoad P H 47 (some x3)) (fun x4 =>
  callQ (.call 137 [x4] false none H nx) (fun x5 H nx =>
  effQ (efBuildSlice P H nx 49 1 (some [(0, x5)])) (fun x6 H nx =>
  effQ (efAppS P H nx [49, 49] (some [t3, x6])) (fun x7 H nx =>
  optK (rdBin P H .add 3 true (some t4) (some (.int .i64 1))) (fun x8 =>
  .jump (l82_9 t0 x7 x8 H nx)) .bad))) panK) .bad) .bad)
 (frzV P 49 t3 H nx (fun x9 H nx =>
  .ret ⟨.ret x9, false, H, nx⟩))) .bad) .bad) .bad := by kernel_rfl
def l83_9 (t0 t1 t5 t6 : Value) (H : T OB) (nx : Nat) : Cfg := .at ⟨83, 27, false, [], none, false⟩ (tmOf [(0, t0), (1, t1), (5, t5), (6, t6)]) (todoOf P 83 9) H nx
def l83_16 (t0 t1 t5 t6 : Value) (H : T OB) (nx : Nat) : Cfg := .at ⟨83, 27, false, [], none, false⟩ (tmOf [(0, t0), (1, t1), (5, t5), (6, t6)]) (todoOf P 83 16) H nx
theorem q83 (a0 a1 : Value) (H : T OB) (nx : Nat) : evT P pl (.call 83 [a0, a1] false none H nx) =
 frzV P 49 a0 H nx (fun x0 H nx =>
 .jump (l83_9 x0 a1 (.string ⟨⟨[]⟩⟩) (.int .i64 0) H nx)) := by kernel_rfl
theorem q83_9 (t0 t1 t5 t6 : Value) (H : T OB) (nx : Nat) : evT P pl (l83_9 t0 t1 t5 t6 H nx) =
 optK (rdLen P #[49] 3 (some [t0])) (fun x0 =>
 optK (rdBin P H .lss 3 false (some t6) (some x0)) (fun x1 =>
 bvK x1 (fun b2 => bK b2
 (optK (rdBin P H .gtr 3 true (some t6) (some (.int .i64 0))) (fun x3 =>
  bvK x3 (fun b4 => bK b4
 (optK (rdBin P H .add 9 true (some t5) (some (.string ⟨⟨[32]⟩⟩))) (fun x5 =>
  optK (rdBin P H .add 9 false (some x5) (some t1)) (fun x6 =>
  optK (rdBin P H .add 9 true (some x6) (some (.string ⟨⟨[32]⟩⟩))) (fun x7 =>
  .jump (l83_16 t0 t1 x7 t6 H nx)) .bad) .bad) .bad)
 (.jump (l83_16 t0 t1 t5 t6 H nx))) .bad) .bad)
 (.ret ⟨.ret t5, false, H, nx⟩)) .bad) .bad) .bad := by kernel_rfl
theorem q83_16 (t0 t1 t5 t6 : Value) (H : T OB) (nx : Nat) : evT P pl (l83_16 t0 t1 t5 t6 H nx) =
 optK (rdIndexAddr P 49 (some t0) (some t6)) (fun x0 =>
 optK (rdLoad P H 9 (some x0)) (fun x1 =>
 optK (rdBin P H .add 9 false (some t5) (some x1)) (fun x2 =>
 optK (rdBin P H .add 3 true (some t6) (some (.int .i64 1))) (fun x3 =>
 .jump (l83_9 t0 t1 x2 x3 H nx)) .bad) .bad) .bad) .bad := by kernel_rfl
theorem q84 (a0 : Value) (H : T OB) (nx : Nat) : evT P pl (.call 84 [a0] false none H nx) =
 natF (Nat.succ nx) (fun nx =>
 optK (rdFieldAddr P 55 (some (eptrV a0)) 1) (fun x0 =>
 optK (rdLoad P H 53 (some x0)) (fun x1 =>
 optK (rdLen P #[53] 3 (some [x1])) (fun x2 =>
 optK (rdBin P H .eql 3 true (some x2) (some (.int .i64 0))) (fun x3 =>
 bvK x3 (fun b4 => bK b4
 (optK (rdFieldAddr P 55 (some (eptrV a0)) 0) (fun x5 =>
  optK (rdLoad P H 9 (some x5)) (fun x6 =>
  .ret ⟨.ret x6, false, H, nx⟩) .bad) .bad)
 (optK (rdFieldAddr P 55 (some (eptrV a0)) 0) (fun x7 =>
  optK (rdLoad P H 9 (some x7)) (fun x8 =>
  optK (rdBin P H .add 9 true (some x8) (some (.string ⟨⟨[32, 111, 102, 32]⟩⟩))) (fun x9 =>
  optK (rdFieldAddr P 55 (some (eptrV a0)) 1) (fun x10 =>
  optK (rdLoad P H 53 (some x10)) (fun x11 =>
  optK (rdIndexAddr P 53 (some x11) (some (.int .i64 0))) (fun x12 =>
  optK (rdLoad P H 138 (some x12)) (fun x13 =>
  callQ (.call 140 [x13] false none H nx) (fun x14 H nx =>
  bK (optK (rdBin P H .add 9 true (some x8) (some (.string ⟨⟨[32, 111, 102, 32]⟩⟩))) (fun u => vEq u x9) false && (optK (rdLoad P H 9 (some x7)) (fun u => vEq u x8) false && true)) (optK (rdBin P H .add 9 false (some x9) (some x14)) (fun x15 =>
  .ret ⟨.ret x15, false, H, nx⟩) .bad) .bad) panK) .bad) .bad) .bad) .bad) .bad) .bad) .bad)) .bad) .bad) .bad) .bad) .bad) := by kernel_rfl
theorem q85 (a0 : Value) (H : T OB) (nx : Nat) : evT P pl (.call 85 [a0] false none H nx) =
 optK (rdBin P H .add 9 true (some (.string ⟨⟨[40, 32]⟩⟩)) (some a0)) (fun x0 =>
 optK (rdBin P H .add 9 true (some x0) (some (.string ⟨⟨[32, 41]⟩⟩))) (fun x1 =>
 .ret ⟨.ret x1, false, H, nx⟩) .bad) .bad := by kernel_rfl
def l86_6 (t1 : Value) (t16 : Bool) (H : T OB) (nx : Nat) : Cfg := .at ⟨86, 114, false, [], none, false⟩ (tmOf [(1, t1), (16, .bool t16)]) (todoOf P 86 6) H nx
theorem q86 (a0 : Value) (H : T OB) (nx : Nat) : evT P pl (.call 86 [a0] false none H nx) =
 natF (Nat.succ nx) (fun nx =>
 optK (rdFieldAddr P 47 (some (eptrV a0)) 3) (fun x0 =>
 optK (rdLoad P H 42 (some x0)) (fun x1 =>
 callQ (.call 89 [x1] false none H nx) (fun x2 H nx =>
 bvK x2 (fun b3 => optK (unV P .not (some (.bool b3))) (fun x4 =>
 bvK x4 (fun b5 => bK b5 (.jump (l86_6 (eptrV a0) true H nx)) (optK (rdFieldAddr P 47 (some (eptrV a0)) 0) (fun x6 =>
 optK (rdLoad P H 3 (some x6)) (fun x7 =>
 optK (rdBin P H .neq 3 true (some x7) (some (.int .i64 3))) (fun x8 =>
 bvK x8 (fun b9 => bK b9 (optK (rdFieldAddr P 47 (some (eptrV a0)) 1) (fun x10 =>
 optK (rdLoad P H 2 (some x10)) (fun x11 =>
 optK (rdBin P H .neq 2 true (some x11) (some (.int .i64 0))) (fun x12 =>
 bvK x12 (fun b13 => .jump (l86_6 (eptrV a0) b13 H nx)) .bad) .bad) .bad) .bad) (.jump (l86_6 (eptrV a0) false H nx))) .bad) .bad) .bad) .bad)) .bad) .bad) .bad) panK) .bad) .bad) := by kernel_rfl
theorem q86_6 (t1 : Value) (t16 : Bool) (H : T OB) (nx : Nat) : evT P pl (l86_6 t1 t16 H nx) =
 bK t16
 (.ret ⟨.ret (.bool false), false, H, nx⟩)
 (optK (rdFieldAddr P 47 (some t1) 0) (fun x0 =>
  optK (rdLoad P H 3 (some x0)) (fun x1 =>
  optK (rdBin P H .eql 3 true (some x1) (some (.int .i64 1))) (fun x2 =>
  bvK x2 (fun b3 => bK b3
 (optK (rdFieldAddr P 47 (some t1) 2) (fun x4 =>
  optK (rdLoad P H 9 (some x4)) (fun x5 =>
  optK (rdBin P H .eql 9 true (some x5) (some (.string ⟨⟨[]⟩⟩))) (fun x6 =>
  bvK x6 (fun b7 => bK b7 (optK (rdFieldAddr P 47 (some t1) 3) (fun x8 =>
  optK (rdLoad P H 42 (some x8)) (fun x9 =>
  optK (rdLen P #[42] 3 (some [x9])) (fun x10 =>
  optK (rdBin P H .eql 3 true (some x10) (some (.int .i64 0))) (fun x11 =>
  bvK x11 (fun b12 => .ret ⟨.ret (.bool b12), false, H, nx⟩) .bad) .bad) .bad) .bad) .bad) (.ret ⟨.ret (.bool false), false, H, nx⟩)) .bad) .bad) .bad) .bad)
 (optK (rdBin P H .eql 3 true (some x1) (some (.int .i64 2))) (fun x13 =>
  bvK x13 (fun b14 => bK b14
 (optK (rdFieldAddr P 47 (some t1) 2) (fun x15 =>
  optK (rdLoad P H 9 (some x15)) (fun x16 =>
  callQ (.call 88 [(.int .i64 3), x16] false none H nx) (fun x17 H nx =>
  bvK x17 (fun b18 => bK b18 (optK (rdFieldAddr P 47 (some t1) 3) (fun x19 =>
  optK (rdLoad P H 42 (some x19)) (fun x20 =>
  optK (rdLen P #[42] 3 (some [x20])) (fun x21 =>
  optK (rdBin P H .eql 3 true (some x21) (some (.int .i64 0))) (fun x22 =>
  bvK x22 (fun b23 => .ret ⟨.ret (.bool b23), false, H, nx⟩) .bad) .bad) .bad) .bad) .bad) (.ret ⟨.ret (.bool false), false, H, nx⟩)) .bad) panK) .bad) .bad)
 (optK (rdBin P H .eql 3 true (some x1) (some (.int .i64 3))) (fun x24 =>
  bvK x24 (fun b25 => bK b25
 (optK (rdFieldAddr P 47 (some t1) 2) (fun x26 =>
  optK (rdLoad P H 9 (some x26)) (fun x27 =>
  optK (rdBin P H .eql 9 true (some x27) (some (.string ⟨⟨[]⟩⟩))) (fun x28 =>
  bvK x28 (fun b29 => bK b29 (optK (rdFieldAddr P 47 (some t1) 3) (fun x30 =>
  optK (rdLoad P H 42 (some x30)) (fun x31 =>
  optK (rdLen P #[42] 3 (some [x31])) (fun x32 =>
  optK (rdBin P H .eql 3 true (some x32) (some (.int .i64 0))) (fun x33 =>
  bvK x33 (fun b34 => bK b34 (optK (rdFieldAddr P 47 (some t1) 1) (fun x35 =>
  optK (rdLoad P H 2 (some x35)) (fun x36 =>
  optK (rdBin P H .geq 2 true (some x36) (some (.int .i64 (-4611686018427387903)))) (fun x37 =>
  bvK x37 (fun b38 => bK b38 (optK (rdFieldAddr P 47 (some t1) 1) (fun x39 =>
  optK (rdLoad P H 2 (some x39)) (fun x40 =>
  optK (rdBin P H .leq 2 true (some x40) (some (.int .i64 4611686018427387903))) (fun x41 =>
  bvK x41 (fun b42 => .ret ⟨.ret (.bool b42), false, H, nx⟩) .bad) .bad) .bad) .bad) (.ret ⟨.ret (.bool false), false, H, nx⟩)) .bad) .bad) .bad) .bad) (.ret ⟨.ret (.bool false), false, H, nx⟩)) .bad) .bad) .bad) .bad) .bad) (.ret ⟨.ret (.bool false), false, H, nx⟩)) .bad) .bad) .bad) .bad)
 (optK (rdBin P H .eql 3 true (some x1) (some (.int .i64 4))) (fun x43 =>
  bvK x43 (fun b44 => bK b44
 (optK (rdFieldAddr P 47 (some t1) 3) (fun x45 =>
  optK (rdLoad P H 42 (some x45)) (fun x46 =>
  optK (rdLen P #[42] 3 (some [x46])) (fun x47 =>
  optK (rdBin P H .eql 3 true (some x47) (some (.int .i64 0))) (fun x48 =>
  bvK x48 (fun b49 => .ret ⟨.ret (.bool b49), false, H, nx⟩) .bad) .bad) .bad) .bad) .bad)
 (optK (rdBin P H .eql 3 true (some x1) (some (.int .i64 5))) (fun x50 =>
  bvK x50 (fun b51 => bK b51
 (optK (rdFieldAddr P 47 (some t1) 2) (fun x52 =>
  optK (rdLoad P H 9 (some x52)) (fun x53 =>
  optK (rdBin P H .eql 9 true (some x53) (some (.string ⟨⟨[]⟩⟩))) (fun x54 =>
  bvK x54 (fun b55 => bK b55 (optK (rdFieldAddr P 47 (some t1) 3) (fun x56 =>
  optK (rdLoad P H 42 (some x56)) (fun x57 =>
  optK (rdLen P #[42] 3 (some [x57])) (fun x58 =>
  optK (rdBin P H .neq 3 true (some x58) (some (.int .i64 1))) (fun x59 =>
  bvK x59 (fun b60 => .ret ⟨.ret (.bool b60), false, H, nx⟩) .bad) .bad) .bad) .bad) .bad) (.ret ⟨.ret (.bool false), false, H, nx⟩)) .bad) .bad) .bad) .bad)
 (optK (rdBin P H .eql 3 true (some x1) (some (.int .i64 6))) (fun x61 =>
  bvK x61 (fun b62 => bK b62
 (optK (rdFieldAddr P 47 (some t1) 2) (fun x63 =>
  optK (rdLoad P H 9 (some x63)) (fun x64 =>
  optK (rdBin P H .eql 9 true (some x64) (some (.string ⟨⟨[58, 58]⟩⟩))) (fun x65 =>
  bvK x65 (fun b66 => bK b66
 (optK (rdFieldAddr P 47 (some t1) 3) (fun x67 =>
  optK (rdLoad P H 42 (some x67)) (fun x68 =>
  optK (rdLen P #[42] 3 (some [x68])) (fun x69 =>
  optK (rdBin P H .eql 3 true (some x69) (some (.int .i64 1))) (fun x70 =>
  bvK x70 (fun b71 => bK b71 (optK (rdFieldAddr P 47 (some t1) 3) (fun x72 =>
  optK (rdLoad P H 42 (some x72)) (fun x73 =>
  optK (rdIndexAddr P 42 (some x73) (some (.int .i64 0))) (fun x74 =>
  optK (rdFieldAddr P 47 (some x74) 0) (fun x75 =>
  optK (rdLoad P H 3 (some x75)) (fun x76 =>
  optK (rdBin P H .eql 3 true (some x76) (some (.int .i64 5))) (fun x77 =>
  bvK x77 (fun b78 => bK b78 (optK (rdFieldAddr P 47 (some t1) 3) (fun x79 =>
  optK (rdLoad P H 42 (some x79)) (fun x80 =>
  optK (rdIndexAddr P 42 (some x80) (some (.int .i64 0))) (fun x81 =>
  optK (rdFieldAddr P 47 (some x81) 3) (fun x82 =>
  optK (rdLoad P H 42 (some x82)) (fun x83 =>
  optK (rdLen P #[42] 3 (some [x83])) (fun x84 =>
  optK (rdBin P H .eql 3 true (some x84) (some (.int .i64 2))) (fun x85 =>
  bvK x85 (fun b86 => .ret ⟨.ret (.bool b86), false, H, nx⟩) .bad) .bad) .bad) .bad) .bad) .bad) .bad) .bad) (.ret ⟨.ret (.bool false), false, H, nx⟩)) .bad) .bad) .bad) .bad) .bad) .bad) .bad) (.ret ⟨.ret (.bool false), false, H, nx⟩)) .bad) .bad) .bad) .bad) .bad)
 (optK (rdFieldAddr P 47 (some t1) 2) (fun x87 =>
  optK (rdLoad P H 9 (some x87)) (fun x88 =>
  callQ (.call 88 [(.int .i64 4), x88] false none H nx) (fun x89 H nx =>
  bvK x89 (fun b90 => bK b90 (optK (rdFieldAddr P 47 (some t1) 3) (fun x91 =>
  optK (rdLoad P H 42 (some x91)) (fun x92 =>
  optK (rdLen P #[42] 3 (some [x92])) (fun x93 =>
  optK (rdBin P H .leq 3 true (some x93) (some (.int .i64 1))) (fun x94 =>
  bvK x94 (fun b95 => .ret ⟨.ret (.bool b95), false, H, nx⟩) .bad) .bad) .bad) .bad) .bad) (.ret ⟨.ret (.bool false), false, H, nx⟩)) .bad) panK) .bad) .bad)) .bad) .bad) .bad) .bad)
 (.ret ⟨.ret (.bool false), false, H, nx⟩)) .bad) .bad)) .bad) .bad)) .bad) .bad)) .bad) .bad)) .bad) .bad)) .bad) .bad) .bad) .bad) := by kernel_rfl
end
end Go.Proofs.YthjhonhhbddhkaaGreatDoor
/- What functions of the program say, as trees. -/
namespace Go.Proofs.YthjhonhhbddhkaaGreatDoor
open Go.Ev Go.RowKit
noncomputable section
set_option linter.unusedVariables false
set_option maxHeartbeats 8000000
def l87_7 (t1 t3 : Value) (H : T OB) (nx : Nat) : Cfg := .at ⟨87, 155, false, [], none, false⟩ (tmOf [(1, t1), (3, t3)]) (todoOf P 87 7) H nx
def l87_16 (t1 : Value) (t36 : Bool) (H : T OB) (nx : Nat) : Cfg := .at ⟨87, 155, false, [], none, false⟩ (tmOf [(1, t1), (36, .bool t36)]) (todoOf P 87 16) H nx
def l87_62 (t1 t4 t41 : Value) (t91 : Bool) (H : T OB) (nx : Nat) : Cfg := .at ⟨87, 155, false, [], none, false⟩ (tmOf [(1, t1), (4, t4), (41, t41), (91, .bool t91)]) (todoOf P 87 62) H nx
def l87_81 (t1 t4 t5 : Value) (H : T OB) (nx : Nat) : Cfg := .at ⟨87, 155, false, [], none, false⟩ (tmOf [(1, t1), (4, t4), (5, t5)]) (todoOf P 87 81) H nx
def l87_86 (t1 t4 t5 : Value) (t152 : Bool) (H : T OB) (nx : Nat) : Cfg := .at ⟨87, 155, false, [], none, false⟩ (tmOf [(1, t1), (4, t4), (5, t5), (152, .bool t152)]) (todoOf P 87 86) H nx
theorem q87 (a0 : Value) (H : T OB) (nx : Nat) : evT P pl (.call 87 [a0] false none H nx) =
 natF (Nat.succ nx) (fun nx =>
 .jump (l87_7 (eptrV a0) (.int .i64 0) H nx)) := by kernel_rfl
theorem q87_7 (t1 t3 : Value) (H : T OB) (nx : Nat) : evT P pl (l87_7 t1 t3 H nx) =
 optK (rdFieldAddr P 44 (some t1) 3) (fun x0 =>
 optK (rdLoad P H 41 (some x0)) (fun x1 =>
 optK (rdLen P #[41] 3 (some [x1])) (fun x2 =>
 optK (rdBin P H .lss 3 false (some t3) (some x2)) (fun x3 =>
 bvK x3 (fun b4 => bK b4
 (optK (rdFieldAddr P 44 (some t1) 3) (fun x5 =>
  optK (rdLoad P H 41 (some x5)) (fun x6 =>
  optK (rdIndexAddr P 41 (some x6) (some t3)) (fun x7 =>
  optK (rdLoad P H 44 (some x7)) (fun x8 =>
  callQ (.call 87 [x8] false none H nx) (fun x9 H nx =>
  bvK x9 (fun b10 => optK (unV P .not (some (.bool b10))) (fun x11 =>
  bvK x11 (fun b12 => bK b12
 (.ret ⟨.ret (.bool false), false, H, nx⟩)
 (optK (rdBin P H .add 3 true (some t3) (some (.int .i64 1))) (fun x13 =>
  .jump (l87_7 t1 x13 H nx)) .bad)) .bad) .bad) .bad) panK) .bad) .bad) .bad) .bad)
 (optK (rdLoad P H 44 (some t1)) (fun x14 =>
  optK (rdLoad P H 44 (some t1)) (fun x15 =>
  callQ (.call 141 [x14] false none H nx) (fun x16 H nx =>
  bK (optK (rdLoad P H 44 (some t1)) (fun u => vEq u x15) false && true) (callQ (.call 25 [x16, x15] false none H nx) (fun x17 H nx =>
  bvK x17 (fun b18 => optK (unV P .not (some (.bool b18))) (fun x19 =>
  bvK x19 (fun b20 => bK b20 (.jump (l87_16 t1 true H nx)) (optK (rdFieldAddr P 44 (some t1) 4) (fun x21 =>
  optK (rdLoad P H 42 (some x21)) (fun x22 =>
  callQ (.call 89 [x22] false none H nx) (fun x23 H nx =>
  bvK x23 (fun b24 => optK (unV P .not (some (.bool b24))) (fun x25 =>
  bvK x25 (fun b26 => bK b26 (.jump (l87_16 t1 true H nx)) (optK (rdFieldAddr P 44 (some t1) 5) (fun x27 =>
  optK (rdLoad P H 24 (some x27)) (fun x28 =>
  callQ (.call 21 [x28] false none H nx) (fun x29 H nx =>
  bvK x29 (fun b30 => optK (unV P .not (some (.bool b30))) (fun x31 =>
  bvK x31 (fun b32 => .jump (l87_16 t1 b32 H nx)) .bad) .bad) .bad) panK) .bad) .bad)) .bad) .bad) .bad) panK) .bad) .bad)) .bad) .bad) .bad) panK) .bad) panK) .bad) .bad)) .bad) .bad) .bad) .bad) .bad := by kernel_rfl
theorem q87_16 (t1 : Value) (t36 : Bool) (H : T OB) (nx : Nat) : evT P pl (l87_16 t1 t36 H nx) =
 bK t36
 (.ret ⟨.ret (.bool false), false, H, nx⟩)
 (optK (rdFieldAddr P 44 (some t1) 3) (fun x0 =>
  optK (rdLoad P H 41 (some x0)) (fun x1 =>
  optK (rdLen P #[41] 3 (some [x1])) (fun x2 =>
  optK (rdFieldAddr P 44 (some t1) 0) (fun x3 =>
  optK (rdLoad P H 3 (some x3)) (fun x4 =>
  optK (rdBin P H .eql 3 true (some x4) (some (.int .i64 1))) (fun x5 =>
  bvK x5 (fun b6 => bK b6
 (optK (rdFieldAddr P 44 (some t1) 1) (fun x7 =>
  optK (rdLoad P H 2 (some x7)) (fun x8 =>
  optK (rdBin P H .geq 2 true (some x8) (some (.int .i64 0))) (fun x9 =>
  bvK x9 (fun b10 => bK b10 (optK (rdFieldAddr P 44 (some t1) 1) (fun x11 =>
  optK (rdLoad P H 2 (some x11)) (fun x12 =>
  optK (rdBin P H .leq 2 true (some x12) (some (.int .i64 4611686018427387903))) (fun x13 =>
  bvK x13 (fun b14 => .ret ⟨.ret (.bool b14), false, H, nx⟩) .bad) .bad) .bad) .bad) (.ret ⟨.ret (.bool false), false, H, nx⟩)) .bad) .bad) .bad) .bad)
 (optK (rdBin P H .eql 3 true (some x4) (some (.int .i64 2))) (fun x15 =>
  bvK x15 (fun b16 => bK b16
 (.ret ⟨.ret (.bool true), false, H, nx⟩)
 (optK (rdBin P H .eql 3 true (some x4) (some (.int .i64 3))) (fun x17 =>
  bvK x17 (fun b18 => bK b18
 (optK (rdFieldAddr P 44 (some t1) 2) (fun x19 =>
  optK (rdLoad P H 9 (some x19)) (fun x20 =>
  callQ (.call 88 [(.int .i64 3), x20] false none H nx) (fun x21 H nx =>
  bvK x21 (fun b22 => .ret ⟨.ret (.bool b22), false, H, nx⟩) .bad) panK) .bad) .bad)
 (optK (rdBin P H .eql 3 true (some x4) (some (.int .i64 4))) (fun x23 =>
  bvK x23 (fun b24 => bK b24
 (optK (rdFieldAddr P 44 (some t1) 2) (fun x25 =>
  optK (rdLoad P H 9 (some x25)) (fun x26 =>
  callQ (.call 88 [(.int .i64 4), x26] false none H nx) (fun x27 H nx =>
  bvK x27 (fun b28 => .ret ⟨.ret (.bool b28), false, H, nx⟩) .bad) panK) .bad) .bad)
 (optK (rdBin P H .eql 3 true (some x4) (some (.int .i64 5))) (fun x29 =>
  bvK x29 (fun b30 => bK b30
 (optK (rdBin P H .neq 3 true (some x2) (some (.int .i64 1))) (fun x31 =>
  bvK x31 (fun b32 => .ret ⟨.ret (.bool b32), false, H, nx⟩) .bad) .bad)
 (optK (rdBin P H .eql 3 true (some x4) (some (.int .i64 13))) (fun x33 =>
  bvK x33 (fun b34 => bK b34
 (optK (rdBin P H .gtr 3 true (some x2) (some (.int .i64 1))) (fun x35 =>
  bvK x35 (fun b36 => .ret ⟨.ret (.bool b36), false, H, nx⟩) .bad) .bad)
 (optK (rdBin P H .eql 3 true (some x4) (some (.int .i64 6))) (fun x37 =>
  bvK x37 (fun b38 => bK b38
 (optK (rdBin P H .eql 3 true (some x2) (some (.int .i64 2))) (fun x39 =>
  bvK x39 (fun b40 => .ret ⟨.ret (.bool b40), false, H, nx⟩) .bad) .bad)
 (optK (rdBin P H .eql 3 true (some x4) (some (.int .i64 7))) (fun x41 =>
  bvK x41 (fun b42 => bK b42
 (optK (rdBin P H .gtr 3 true (some x2) (some (.int .i64 0))) (fun x43 =>
  bvK x43 (fun b44 => bK b44 (optK (rdFieldAddr P 44 (some t1) 4) (fun x45 =>
  optK (rdLoad P H 42 (some x45)) (fun x46 =>
  optK (rdLen P #[42] 3 (some [x46])) (fun x47 =>
  optK (rdBin P H .eql 3 false (some x47) (some x2)) (fun x48 =>
  bvK x48 (fun b49 => .ret ⟨.ret (.bool b49), false, H, nx⟩) .bad) .bad) .bad) .bad) .bad) (.ret ⟨.ret (.bool false), false, H, nx⟩)) .bad) .bad)
 (optK (rdBin P H .eql 3 true (some x4) (some (.int .i64 8))) (fun x50 =>
  bvK x50 (fun b51 => bK b51
 (optK (rdBin P H .eql 3 true (some x2) (some (.int .i64 3))) (fun x52 =>
  bvK x52 (fun b53 => .ret ⟨.ret (.bool b53), false, H, nx⟩) .bad) .bad)
 (optK (rdBin P H .eql 3 true (some x4) (some (.int .i64 9))) (fun x54 =>
  bvK x54 (fun b55 => bK b55
 (.jump (l87_62 t1 x2 x4 b55 H nx))
 (optK (rdBin P H .eql 3 true (some x4) (some (.int .i64 12))) (fun x56 =>
  bvK x56 (fun b57 => .jump (l87_62 t1 x2 x4 b57 H nx)) .bad) .bad)) .bad) .bad)) .bad) .bad)) .bad) .bad)) .bad) .bad)) .bad) .bad)) .bad) .bad)) .bad) .bad)) .bad) .bad)) .bad) .bad)) .bad) .bad) .bad) .bad) .bad) .bad) .bad) := by kernel_rfl
theorem q87_62 (t1 t4 t41 : Value) (t91 : Bool) (H : T OB) (nx : Nat) : evT P pl (l87_62 t1 t4 t41 t91 H nx) =
 bK t91
 (optK (rdBin P H .gtr 3 true (some t4) (some (.int .i64 1))) (fun x0 =>
  bvK x0 (fun b1 => bK b1 (optK (rdFieldAddr P 44 (some t1) 4) (fun x2 =>
  optK (rdLoad P H 42 (some x2)) (fun x3 =>
  optK (rdLen P #[42] 3 (some [x3])) (fun x4 =>
  optK (rdBin P H .sub 3 true (some t4) (some (.int .i64 1))) (fun x5 =>
  optK (rdBin P H .eql 3 false (some x4) (some x5)) (fun x6 =>
  bvK x6 (fun b7 => .ret ⟨.ret (.bool b7), false, H, nx⟩) .bad) .bad) .bad) .bad) .bad) .bad) (.ret ⟨.ret (.bool false), false, H, nx⟩)) .bad) .bad)
 (optK (rdBin P H .eql 3 true (some t41) (some (.int .i64 11))) (fun x8 =>
  bvK x8 (fun b9 => bK b9
 (optK (rdBin P H .eql 3 true (some t4) (some (.int .i64 1))) (fun x10 =>
  bvK x10 (fun b11 => .ret ⟨.ret (.bool b11), false, H, nx⟩) .bad) .bad)
 (optK (rdBin P H .eql 3 true (some t41) (some (.int .i64 14))) (fun x12 =>
  bvK x12 (fun b13 => bK b13
 (optK (rdBin P H .eql 3 true (some t4) (some (.int .i64 2))) (fun x14 =>
  bvK x14 (fun b15 => bK b15 (effQ (efBuildSlice P H nx 49 16 (some [(0, (.string ⟨⟨[111, 114, 101, 108, 115, 101]⟩⟩)), (1, (.string ⟨⟨[97, 110, 100, 97, 108, 115, 111]⟩⟩)), (2, (.string ⟨⟨[58, 61]⟩⟩)), (3, (.string ⟨⟨[61]⟩⟩)), (4, (.string ⟨⟨[60, 62]⟩⟩)), (5, (.string ⟨⟨[60]⟩⟩)), (6, (.string ⟨⟨[60, 61]⟩⟩)), (7, (.string ⟨⟨[62]⟩⟩)), (8, (.string ⟨⟨[62, 61]⟩⟩)), (9, (.string ⟨⟨[58, 58]⟩⟩)), (10, (.string ⟨⟨[43]⟩⟩)), (11, (.string ⟨⟨[45]⟩⟩)), (12, (.string ⟨⟨[94]⟩⟩)), (13, (.string ⟨⟨[42]⟩⟩)), (14, (.string ⟨⟨[100, 105, 118]⟩⟩)), (15, (.string ⟨⟨[109, 111, 100]⟩⟩))])) (fun x16 H nx =>
  optK (rdFieldAddr P 44 (some t1) 2) (fun x17 =>
  optK (rdLoad P H 9 (some x17)) (fun x18 =>
  callQ (.call 115 [x16, x18] false none H nx) (fun x19 H nx =>
  bvK x19 (fun b20 => .ret ⟨.ret (.bool b20), false, H, nx⟩) .bad) panK) .bad) .bad)) (.ret ⟨.ret (.bool false), false, H, nx⟩)) .bad) .bad)
 (optK (rdBin P H .eql 3 true (some t41) (some (.int .i64 15))) (fun x21 =>
  bvK x21 (fun b22 => bK b22
 (optK (rdBin P H .eql 3 true (some t4) (some (.int .i64 1))) (fun x23 =>
  bvK x23 (fun b24 => bK b24 (optK (rdFieldAddr P 44 (some t1) 2) (fun x25 =>
  optK (rdLoad P H 9 (some x25)) (fun x26 =>
  callQ (.call 142 [] false none H nx) (fun x27 H nx =>
  bK (optK (rdLoad P H 9 (some x25)) (fun u => vEq u x26) false && true) (callQ (.call 115 [x27, x26] false none H nx) (fun x28 H nx =>
  bvK x28 (fun b29 => .ret ⟨.ret (.bool b29), false, H, nx⟩) .bad) panK) .bad) panK) .bad) .bad) (bK (true && true) (.ret ⟨.ret (.bool false), false, H, nx⟩) .bad)) .bad) .bad)
 (optK (rdBin P H .eql 3 true (some t41) (some (.int .i64 10))) (fun x30 =>
  bvK x30 (fun b31 => bK b31
 (.jump (l87_81 t1 t4 (.int .i64 0) H nx))
 (.ret ⟨.ret (.bool false), false, H, nx⟩)) .bad) .bad)) .bad) .bad)) .bad) .bad)) .bad) .bad) := by kernel_rfl
theorem q87_81 (t1 t4 t5 : Value) (H : T OB) (nx : Nat) : evT P pl (l87_81 t1 t4 t5 H nx) =
 optK (rdFieldAddr P 44 (some t1) 5) (fun x0 =>
 optK (rdLoad P H 24 (some x0)) (fun x1 =>
 optK (rdLen P #[24] 3 (some [x1])) (fun x2 =>
 optK (rdBin P H .lss 3 false (some t5) (some x2)) (fun x3 =>
 bvK x3 (fun b4 => bK b4
 (optK (rdFieldAddr P 44 (some t1) 5) (fun x5 =>
  optK (rdLoad P H 24 (some x5)) (fun x6 =>
  optK (rdIndexAddr P 24 (some x6) (some t5)) (fun x7 =>
  optK (rdFieldAddr P 57 (some x7) 0) (fun x8 =>
  optK (rdLoad P H 3 (some x8)) (fun x9 =>
  optK (rdBin P H .neq 3 true (some x9) (some (.int .i64 1))) (fun x10 =>
  bvK x10 (fun b11 => bK b11 (optK (rdFieldAddr P 44 (some t1) 5) (fun x12 =>
  optK (rdLoad P H 24 (some x12)) (fun x13 =>
  optK (rdIndexAddr P 24 (some x13) (some t5)) (fun x14 =>
  optK (rdFieldAddr P 57 (some x14) 0) (fun x15 =>
  optK (rdLoad P H 3 (some x15)) (fun x16 =>
  optK (rdBin P H .neq 3 true (some x16) (some (.int .i64 2))) (fun x17 =>
  bvK x17 (fun b18 => .jump (l87_86 t1 t4 t5 b18 H nx)) .bad) .bad) .bad) .bad) .bad) .bad) .bad) (.jump (l87_86 t1 t4 t5 false H nx))) .bad) .bad) .bad) .bad) .bad) .bad) .bad)
 (optK (rdBin P H .eql 3 true (some t4) (some (.int .i64 1))) (fun x19 =>
  bvK x19 (fun b20 => .ret ⟨.ret (.bool b20), false, H, nx⟩) .bad) .bad)) .bad) .bad) .bad) .bad) .bad := by kernel_rfl
theorem q87_86 (t1 t4 t5 : Value) (t152 : Bool) (H : T OB) (nx : Nat) : evT P pl (l87_86 t1 t4 t5 t152 H nx) =
 bK t152
 (.ret ⟨.ret (.bool false), false, H, nx⟩)
 (optK (rdBin P H .add 3 true (some t5) (some (.int .i64 1))) (fun x0 =>
  .jump (l87_81 t1 t4 x0 H nx)) .bad) := by kernel_rfl
theorem q88 (a0 a1 : Value) (H : T OB) (nx : Nat) : evT P pl (.call 88 [a0, a1] false none H nx) =
 optK (rdBuild P 31 (some [(0, a0), (1, a1)])) (fun x0 =>
 callQ (.call 36 [x0] false none H nx) (fun x1 H nx =>
 bvK x1 (fun b2 => .ret ⟨.ret (.bool b2), false, H, nx⟩) .bad) panK) .bad := by kernel_rfl
def l89_7 (t0 t3 : Value) (H : T OB) (nx : Nat) : Cfg := .at ⟨89, 16, false, [], none, false⟩ (tmOf [(0, t0), (3, t3)]) (todoOf P 89 7) H nx
theorem q89 (a0 : Value) (H : T OB) (nx : Nat) : evT P pl (.call 89 [a0] false none H nx) =
 .jump (l89_7 a0 (.int .i64 0) H nx) := by kernel_rfl
theorem q89_7 (t0 t3 : Value) (H : T OB) (nx : Nat) : evT P pl (l89_7 t0 t3 H nx) =
 optK (rdLen P #[42] 3 (some [t0])) (fun x0 =>
 optK (rdBin P H .lss 3 false (some t3) (some x0)) (fun x1 =>
 bvK x1 (fun b2 => bK b2
 (optK (rdIndexAddr P 42 (some t0) (some t3)) (fun x3 =>
  optK (rdLoad P H 47 (some x3)) (fun x4 =>
  callQ (.call 86 [x4] false none H nx) (fun x5 H nx =>
  bvK x5 (fun b6 => optK (unV P .not (some (.bool b6))) (fun x7 =>
  bvK x7 (fun b8 => bK b8
 (.ret ⟨.ret (.bool false), false, H, nx⟩)
 (optK (rdBin P H .add 3 true (some t3) (some (.int .i64 1))) (fun x9 =>
  .jump (l89_7 t0 x9 H nx)) .bad)) .bad) .bad) .bad) panK) .bad) .bad)
 (.ret ⟨.ret (.bool true), false, H, nx⟩)) .bad) .bad) .bad := by kernel_rfl
theorem q90 (a0 : Value) (H : T OB) (nx : Nat) : evT P pl (.call 90 [a0] false none H nx) =
 natF (Nat.succ nx) (fun nx =>
 optK (rdFieldAddr P 55 (some (eptrV a0)) 0) (fun x0 =>
 optK (rdLoad P H 9 (some x0)) (fun x1 =>
 callQ (.call 88 [(.int .i64 4), x1] false none H nx) (fun x2 H nx =>
 bvK x2 (fun b3 => bK b3 (optK (rdFieldAddr P 55 (some (eptrV a0)) 1) (fun x4 =>
 optK (rdLoad P H 53 (some x4)) (fun x5 =>
 optK (rdLen P #[53] 3 (some [x5])) (fun x6 =>
 optK (rdBin P H .leq 3 true (some x6) (some (.int .i64 1))) (fun x7 =>
 bvK x7 (fun b8 => bK b8 (optK (rdFieldAddr P 55 (some (eptrV a0)) 1) (fun x9 =>
 optK (rdLoad P H 53 (some x9)) (fun x10 =>
 optK (rdLen P #[53] 3 (some [x10])) (fun x11 =>
 optK (rdBin P H .eql 3 true (some x11) (some (.int .i64 0))) (fun x12 =>
 bvK x12 (fun b13 => bK b13 (.ret ⟨.ret (.bool true), false, H, nx⟩) (optK (rdFieldAddr P 55 (some (eptrV a0)) 1) (fun x14 =>
 optK (rdLoad P H 53 (some x14)) (fun x15 =>
 optK (rdIndexAddr P 53 (some x15) (some (.int .i64 0))) (fun x16 =>
 optK (rdLoad P H 138 (some x16)) (fun x17 =>
 callQ (.call 143 [x17] false none H nx) (fun x18 H nx =>
 bvK x18 (fun b19 => .ret ⟨.ret (.bool b19), false, H, nx⟩) .bad) panK) .bad) .bad) .bad) .bad)) .bad) .bad) .bad) .bad) .bad) (.ret ⟨.ret (.bool false), false, H, nx⟩)) .bad) .bad) .bad) .bad) .bad) (.ret ⟨.ret (.bool false), false, H, nx⟩)) .bad) panK) .bad) .bad) := by kernel_rfl
theorem q99 (a0 : Value) (H : T OB) (nx : Nat) : evT P pl (.call 99 [a0] false none H nx) =
 optK (rdBin P H .geq 5 true (some a0) (some (.int .u8 48))) (fun x0 =>
 bvK x0 (fun b1 => bK b1 (optK (rdBin P H .leq 5 true (some a0) (some (.int .u8 57))) (fun x2 =>
 bvK x2 (fun b3 => .ret ⟨.ret (.bool b3), false, H, nx⟩) .bad) .bad) (.ret ⟨.ret (.bool false), false, H, nx⟩)) .bad) .bad := by kernel_rfl
def l110_9 (t0 t4 t5 : Value) (H : T OB) (nx : Nat) : Cfg := .at ⟨110, 39, false, [], none, false⟩ (tmOf [(0, t0), (4, t4), (5, t5)]) (todoOf P 110 9) H nx
def l110_14 (t0 t4 t5 : Value) (t27 : Bool) (H : T OB) (nx : Nat) : Cfg := .at ⟨110, 39, false, [], none, false⟩ (tmOf [(0, t0), (4, t4), (5, t5), (27, .bool t27)]) (todoOf P 110 14) H nx
theorem q110 (a0 : Value) (H : T OB) (nx : Nat) : evT P pl (.call 110 [a0] false none H nx) =
 .jump (l110_9 a0 (.int .i64 0) (.int .i64 0) H nx) := by kernel_rfl
theorem q110_9 (t0 t4 t5 : Value) (H : T OB) (nx : Nat) : evT P pl (l110_9 t0 t4 t5 H nx) =
 optK (rdLen P #[9] 3 (some [t0])) (fun x0 =>
 optK (rdBin P H .lss 3 false (some t5) (some x0)) (fun x1 =>
 bvK x1 (fun b2 => bK b2
 (optK (rdIndex P 9 (some t0) (some t5)) (fun x3 =>
  callQ (.call 144 [x3, (.int .u8 48), (.int .u8 57)] false none H nx) (fun x4 H nx =>
  bvK x4 (fun b5 => optK (unV P .not (some (.bool b5))) (fun x6 =>
  bvK x6 (fun b7 => bK b7 (.jump (l110_14 t0 t4 t5 true H nx)) (optK (rdIndex P 9 (some t0) (some t5)) (fun x8 =>
  optK (rdBin P H .sub 5 true (some x8) (some (.int .u8 48))) (fun x9 =>
  optK (rdConv P H 5 2 (some x9)) (fun x10 =>
  optK (rdBin P H .sub 2 true (some (.int .i64 4611686018427387903)) (some x10)) (fun x11 =>
  optK (rdBin P H .quo 2 true (some x11) (some (.int .i64 10))) (fun x12 =>
  optK (rdBin P H .gtr 2 false (some t4) (some x12)) (fun x13 =>
  bvK x13 (fun b14 => .jump (l110_14 t0 t4 t5 b14 H nx)) .bad) .bad) .bad) .bad) .bad) .bad) .bad)) .bad) .bad) .bad) panK) .bad)
 (optK (rdBin P H .neq 9 true (some t0) (some (.string ⟨⟨[]⟩⟩))) (fun x15 =>
  bvK x15 (fun b16 => .ret ⟨.ret (.tuple ⟨[t4, (.bool b16)]⟩), false, H, nx⟩) .bad) .bad)) .bad) .bad) .bad := by kernel_rfl
theorem q110_14 (t0 t4 t5 : Value) (t27 : Bool) (H : T OB) (nx : Nat) : evT P pl (l110_14 t0 t4 t5 t27 H nx) =
 bK t27
 (.ret ⟨.ret (.tuple ⟨[(.int .i64 0), (.bool false)]⟩), false, H, nx⟩)
 (optK (rdBin P H .mul 2 true (some t4) (some (.int .i64 10))) (fun x0 =>
  optK (rdIndex P 9 (some t0) (some t5)) (fun x1 =>
  optK (rdBin P H .sub 5 true (some x1) (some (.int .u8 48))) (fun x2 =>
  optK (rdConv P H 5 2 (some x2)) (fun x3 =>
  optK (rdBin P H .add 2 false (some x0) (some x3)) (fun x4 =>
  optK (rdBin P H .add 3 true (some t5) (some (.int .i64 1))) (fun x5 =>
  .jump (l110_9 t0 x4 x5 H nx)) .bad) .bad) .bad) .bad) .bad) .bad) := by kernel_rfl
end
end Go.Proofs.YthjhonhhbddhkaaGreatDoor
/- What functions of the program say, as trees. -/
namespace Go.Proofs.YthjhonhhbddhkaaGreatDoor
open Go.Ev Go.RowKit
noncomputable section
set_option linter.unusedVariables false
set_option maxHeartbeats 8000000
def l111_6 (t0 : Value) (t15 : Bool) (H : T OB) (nx : Nat) : Cfg := .at ⟨111, 50, false, [], none, false⟩ (tmOf [(0, t0), (15, .bool t15)]) (todoOf P 111 6) H nx
def l111_13 (t0 t4 t5 : Value) (H : T OB) (nx : Nat) : Cfg := .at ⟨111, 50, false, [], none, false⟩ (tmOf [(0, t0), (4, t4), (5, t5)]) (todoOf P 111 13) H nx
theorem q111 (a0 : Value) (H : T OB) (nx : Nat) : evT P pl (.call 111 [a0] false none H nx) =
 optK (rdLen P #[9] 3 (some [a0])) (fun x0 =>
 optK (rdBin P H .lss 3 true (some x0) (some (.int .i64 2))) (fun x1 =>
 bvK x1 (fun b2 => bK b2 (.jump (l111_6 a0 true H nx)) (optK (rdIndex P 9 (some a0) (some (.int .i64 0))) (fun x3 =>
 optK (rdBin P H .neq 5 true (some x3) (some (.int .u8 34))) (fun x4 =>
 bvK x4 (fun b5 => .jump (l111_6 a0 b5 H nx)) .bad) .bad) .bad)) .bad) .bad) .bad := by kernel_rfl
theorem q111_6 (t0 : Value) (t15 : Bool) (H : T OB) (nx : Nat) : evT P pl (l111_6 t0 t15 H nx) =
 bK t15
 (.ret ⟨.ret (.tuple ⟨[(.string ⟨⟨[]⟩⟩), (.bool false)]⟩), false, H, nx⟩)
 (.jump (l111_13 t0 (.slice none 0 0) (.int .i64 1) H nx)) := by kernel_rfl
theorem q111_13 (t0 t4 t5 : Value) (H : T OB) (nx : Nat) : evT P pl (l111_13 t0 t4 t5 H nx) =
 optK (rdLen P #[9] 3 (some [t0])) (fun x0 =>
 optK (rdBin P H .sub 3 true (some x0) (some (.int .i64 1))) (fun x1 =>
 optK (rdBin P H .lss 3 false (some t5) (some x1)) (fun x2 =>
 bvK x2 (fun b3 => bK b3
 (optK (rdSlice P H 9 (some t0) (some (some t5)) (some none) (some none)) (fun x4 =>
  callQ (.call 155 [x4] false none H nx) (fun x5 H nx =>
  optK (rdExtract (some x5) 0) (fun x6 =>
  optK (rdExtract (some x5) 1) (fun x7 =>
  optK (rdBin P H .eql 3 true (some x7) (some (.int .i64 0))) (fun x8 =>
  bvK x8 (fun b9 => bK b9
 (.ret ⟨.ret (.tuple ⟨[(.string ⟨⟨[]⟩⟩), (.bool false)]⟩), false, H, nx⟩)
 (effQ (efBuildSlice P H nx 120 1 (some [(0, x6)])) (fun x10 H nx =>
  effQ (efAppS P H nx [120, 120] (some [t4, x10])) (fun x11 H nx =>
  optK (rdBin P H .add 3 false (some t5) (some x7)) (fun x12 =>
  .jump (l111_13 t0 x11 x12 H nx)) .bad)))) .bad) .bad) .bad) .bad) panK) .bad)
 (optK (rdConv P H 120 9 (some t4)) (fun x13 =>
  optK (rdLen P #[9] 3 (some [t0])) (fun x14 =>
  optK (rdBin P H .sub 3 true (some x14) (some (.int .i64 1))) (fun x15 =>
  optK (rdBin P H .eql 3 false (some t5) (some x15)) (fun x16 =>
  bvK x16 (fun b17 => bK b17 (optK (rdIndex P 9 (some t0) (some t5)) (fun x18 =>
  optK (rdBin P H .eql 5 true (some x18) (some (.int .u8 34))) (fun x19 =>
  bvK x19 (fun b20 => .ret ⟨.ret (.tuple ⟨[x13, (.bool b20)]⟩), false, H, nx⟩) .bad) .bad) .bad) (.ret ⟨.ret (.tuple ⟨[x13, (.bool false)]⟩), false, H, nx⟩)) .bad) .bad) .bad) .bad) .bad)) .bad) .bad) .bad) .bad := by kernel_rfl
def l112_6 (t0 : Value) (t17 : Bool) (H : T OB) (nx : Nat) : Cfg := .at ⟨112, 29, false, [], none, false⟩ (tmOf [(0, t0), (17, .bool t17)]) (todoOf P 112 6) H nx
def l112_11 (t0 t3 : Value) (H : T OB) (nx : Nat) : Cfg := .at ⟨112, 29, false, [], none, false⟩ (tmOf [(0, t0), (3, t3)]) (todoOf P 112 11) H nx
theorem q112 (a0 : Value) (H : T OB) (nx : Nat) : evT P pl (.call 112 [a0] false none H nx) =
 optK (rdBin P H .eql 9 true (some a0) (some (.string ⟨⟨[]⟩⟩))) (fun x0 =>
 bvK x0 (fun b1 => bK b1 (.jump (l112_6 a0 true H nx)) (optK (rdIndex P 9 (some a0) (some (.int .i64 0))) (fun x2 =>
 callQ (.call 144 [x2, (.int .u8 97), (.int .u8 122)] false none H nx) (fun x3 H nx =>
 bvK x3 (fun b4 => optK (unV P .not (some (.bool b4))) (fun x5 =>
 bvK x5 (fun b6 => bK b6 (optK (rdIndex P 9 (some a0) (some (.int .i64 0))) (fun x7 =>
 callQ (.call 144 [x7, (.int .u8 65), (.int .u8 90)] false none H nx) (fun x8 H nx =>
 bvK x8 (fun b9 => optK (unV P .not (some (.bool b9))) (fun x10 =>
 bvK x10 (fun b11 => .jump (l112_6 a0 b11 H nx)) .bad) .bad) .bad) panK) .bad) (.jump (l112_6 a0 false H nx))) .bad) .bad) .bad) panK) .bad)) .bad) .bad := by kernel_rfl
theorem q112_6 (t0 : Value) (t17 : Bool) (H : T OB) (nx : Nat) : evT P pl (l112_6 t0 t17 H nx) =
 bK t17
 (.ret ⟨.ret (.bool false), false, H, nx⟩)
 (.jump (l112_11 t0 (.int .i64 1) H nx)) := by kernel_rfl
theorem q112_11 (t0 t3 : Value) (H : T OB) (nx : Nat) : evT P pl (l112_11 t0 t3 H nx) =
 optK (rdLen P #[9] 3 (some [t0])) (fun x0 =>
 optK (rdBin P H .lss 3 false (some t3) (some x0)) (fun x1 =>
 bvK x1 (fun b2 => bK b2
 (optK (rdIndex P 9 (some t0) (some t3)) (fun x3 =>
  callQ (.call 156 [x3] false none H nx) (fun x4 H nx =>
  bvK x4 (fun b5 => optK (unV P .not (some (.bool b5))) (fun x6 =>
  bvK x6 (fun b7 => bK b7
 (.ret ⟨.ret (.bool false), false, H, nx⟩)
 (optK (rdBin P H .add 3 true (some t3) (some (.int .i64 1))) (fun x8 =>
  .jump (l112_11 t0 x8 H nx)) .bad)) .bad) .bad) .bad) panK) .bad)
 (.ret ⟨.ret (.bool true), false, H, nx⟩)) .bad) .bad) .bad := by kernel_rfl
def l113_10 (t20 : Bool) (H : T OB) (nx : Nat) : Cfg := .at ⟨113, 21, false, [], none, false⟩ (tmOf [(20, .bool t20)]) (todoOf P 113 10) H nx
theorem q113 (a0 : Value) (H : T OB) (nx : Nat) : evT P pl (.call 113 [a0] false none H nx) =
 callQ (.call 157 [] false none H nx) (fun x0 H nx =>
 callQ (.call 115 [x0, a0] false none H nx) (fun x1 H nx =>
 bvK x1 (fun b2 => bK b2
 (.ret ⟨.ret (.int .i64 6), false, H, nx⟩)
 (optK (rdIndex P 9 (some a0) (some (.int .i64 0))) (fun x3 =>
  callQ (.call 144 [x3, (.int .u8 65), (.int .u8 90)] false none H nx) (fun x4 H nx =>
  bvK x4 (fun b5 => bK b5 (.jump (l113_10 true H nx)) (optK (rdBin P H .eql 9 true (some a0) (some (.string ⟨⟨[116, 114, 117, 101]⟩⟩))) (fun x6 =>
  bvK x6 (fun b7 => bK b7 (.jump (l113_10 true H nx)) (optK (rdBin P H .eql 9 true (some a0) (some (.string ⟨⟨[102, 97, 108, 115, 101]⟩⟩))) (fun x8 =>
  bvK x8 (fun b9 => bK b9 (.jump (l113_10 true H nx)) (optK (rdBin P H .eql 9 true (some a0) (some (.string ⟨⟨[110, 105, 108]⟩⟩))) (fun x10 =>
  bvK x10 (fun b11 => .jump (l113_10 b11 H nx)) .bad) .bad)) .bad) .bad)) .bad) .bad)) .bad) panK) .bad)) .bad) panK) panK := by kernel_rfl
theorem q113_10 (t20 : Bool) (H : T OB) (nx : Nat) : evT P pl (l113_10 t20 H nx) =
 bK t20
 (.ret ⟨.ret (.int .i64 4), false, H, nx⟩)
 (.ret ⟨.ret (.int .i64 3), false, H, nx⟩) := by kernel_rfl
def l114_6 (t0 : Value) (t17 : Bool) (H : T OB) (nx : Nat) : Cfg := .at ⟨114, 35, false, [], none, false⟩ (tmOf [(0, t0), (17, .bool t17)]) (todoOf P 114 6) H nx
def l114_11 (t0 t3 : Value) (H : T OB) (nx : Nat) : Cfg := .at ⟨114, 35, false, [], none, false⟩ (tmOf [(0, t0), (3, t3)]) (todoOf P 114 11) H nx
def l114_16 (t0 t3 : Value) (t34 : Bool) (H : T OB) (nx : Nat) : Cfg := .at ⟨114, 35, false, [], none, false⟩ (tmOf [(0, t0), (3, t3), (34, .bool t34)]) (todoOf P 114 16) H nx
theorem q114 (a0 : Value) (H : T OB) (nx : Nat) : evT P pl (.call 114 [a0] false none H nx) =
 optK (rdLen P #[9] 3 (some [a0])) (fun x0 =>
 optK (rdBin P H .lss 3 true (some x0) (some (.int .i64 2))) (fun x1 =>
 bvK x1 (fun b2 => bK b2 (.jump (l114_6 a0 true H nx)) (optK (rdIndex P 9 (some a0) (some (.int .i64 0))) (fun x3 =>
 optK (rdBin P H .neq 5 true (some x3) (some (.int .u8 39))) (fun x4 =>
 bvK x4 (fun b5 => bK b5 (.jump (l114_6 a0 true H nx)) (optK (rdIndex P 9 (some a0) (some (.int .i64 1))) (fun x6 =>
 callQ (.call 144 [x6, (.int .u8 97), (.int .u8 122)] false none H nx) (fun x7 H nx =>
 bvK x7 (fun b8 => optK (unV P .not (some (.bool b8))) (fun x9 =>
 bvK x9 (fun b10 => .jump (l114_6 a0 b10 H nx)) .bad) .bad) .bad) panK) .bad)) .bad) .bad) .bad)) .bad) .bad) .bad := by kernel_rfl
theorem q114_6 (t0 : Value) (t17 : Bool) (H : T OB) (nx : Nat) : evT P pl (l114_6 t0 t17 H nx) =
 bK t17
 (.ret ⟨.ret (.bool false), false, H, nx⟩)
 (.jump (l114_11 t0 (.int .i64 2) H nx)) := by kernel_rfl
theorem q114_11 (t0 t3 : Value) (H : T OB) (nx : Nat) : evT P pl (l114_11 t0 t3 H nx) =
 optK (rdLen P #[9] 3 (some [t0])) (fun x0 =>
 optK (rdBin P H .lss 3 false (some t3) (some x0)) (fun x1 =>
 bvK x1 (fun b2 => bK b2
 (optK (rdIndex P 9 (some t0) (some t3)) (fun x3 =>
  optK (rdBin P H .eql 5 true (some x3) (some (.int .u8 39))) (fun x4 =>
  bvK x4 (fun b5 => bK b5 (.jump (l114_16 t0 t3 true H nx)) (optK (rdIndex P 9 (some t0) (some t3)) (fun x6 =>
  callQ (.call 156 [x6] false none H nx) (fun x7 H nx =>
  bvK x7 (fun b8 => optK (unV P .not (some (.bool b8))) (fun x9 =>
  bvK x9 (fun b10 => .jump (l114_16 t0 t3 b10 H nx)) .bad) .bad) .bad) panK) .bad)) .bad) .bad) .bad)
 (.ret ⟨.ret (.bool true), false, H, nx⟩)) .bad) .bad) .bad := by kernel_rfl
theorem q114_16 (t0 t3 : Value) (t34 : Bool) (H : T OB) (nx : Nat) : evT P pl (l114_16 t0 t3 t34 H nx) =
 bK t34
 (.ret ⟨.ret (.bool false), false, H, nx⟩)
 (optK (rdBin P H .add 3 true (some t3) (some (.int .i64 1))) (fun x0 =>
  .jump (l114_11 t0 x0 H nx)) .bad) := by kernel_rfl
def l115_7 (t0 t1 t5 : Value) (H : T OB) (nx : Nat) : Cfg := .at ⟨115, 18, false, [], none, false⟩ (tmOf [(0, t0), (1, t1), (5, t5)]) (todoOf P 115 7) H nx
theorem q115 (a0 a1 : Value) (H : T OB) (nx : Nat) : evT P pl (.call 115 [a0, a1] false none H nx) =
 frzV P 49 a0 H nx (fun x0 H nx =>
 .jump (l115_7 x0 a1 (.int .i64 0) H nx)) := by kernel_rfl
theorem q115_7 (t0 t1 t5 : Value) (H : T OB) (nx : Nat) : evT P pl (l115_7 t0 t1 t5 H nx) =
 optK (rdLen P #[49] 3 (some [t0])) (fun x0 =>
 optK (rdBin P H .lss 3 false (some t5) (some x0)) (fun x1 =>
 bvK x1 (fun b2 => bK b2
 (optK (rdIndexAddr P 49 (some t0) (some t5)) (fun x3 =>
  optK (rdLoad P H 9 (some x3)) (fun x4 =>
  optK (rdBin P H .eql 9 false (some x4) (some t1)) (fun x5 =>
  bvK x5 (fun b6 => bK b6
 (.ret ⟨.ret (.bool true), false, H, nx⟩)
 (optK (rdBin P H .add 3 true (some t5) (some (.int .i64 1))) (fun x7 =>
  .jump (l115_7 t0 t1 x7 H nx)) .bad)) .bad) .bad) .bad) .bad)
 (.ret ⟨.ret (.bool false), false, H, nx⟩)) .bad) .bad) .bad := by kernel_rfl
theorem q116 (H : T OB) (nx : Nat) : evT P pl (.call 116 [] false none H nx) =
 effQ (efBuildSlice P H nx 49 22 (some [(0, (.string ⟨⟨[45, 62]⟩⟩)), (1, (.string ⟨⟨[61, 62]⟩⟩)), (2, (.string ⟨⟨[58, 58]⟩⟩)), (3, (.string ⟨⟨[58, 61]⟩⟩)), (4, (.string ⟨⟨[60, 61]⟩⟩)), (5, (.string ⟨⟨[62, 61]⟩⟩)), (6, (.string ⟨⟨[60, 62]⟩⟩)), (7, (.string ⟨⟨[61]⟩⟩)), (8, (.string ⟨⟨[60]⟩⟩)), (9, (.string ⟨⟨[62]⟩⟩)), (10, (.string ⟨⟨[43]⟩⟩)), (11, (.string ⟨⟨[45]⟩⟩)), (12, (.string ⟨⟨[42]⟩⟩)), (13, (.string ⟨⟨[94]⟩⟩)), (14, (.string ⟨⟨[33]⟩⟩)), (15, (.string ⟨⟨[126]⟩⟩)), (16, (.string ⟨⟨[40]⟩⟩)), (17, (.string ⟨⟨[41]⟩⟩)), (18, (.string ⟨⟨[44]⟩⟩)), (19, (.string ⟨⟨[59]⟩⟩)), (20, (.string ⟨⟨[124]⟩⟩)), (21, (.string ⟨⟨[95]⟩⟩))])) (fun x0 H nx =>
 frzV P 49 x0 H nx (fun x1 H nx =>
 .ret ⟨.ret x1, false, H, nx⟩)) := by kernel_rfl
def l117_9 (t0 t3 t4 : Value) (H : T OB) (nx : Nat) : Cfg := .at ⟨117, 33, false, [], none, false⟩ (tmOf [(0, t0), (3, t3), (4, t4)]) (todoOf P 117 9) H nx
def l117_16 (t0 t3 t4 t5 : Value) (H : T OB) (nx : Nat) : Cfg := .at ⟨117, 33, false, [], none, false⟩ (tmOf [(0, t0), (3, t3), (4, t4), (5, t5)]) (todoOf P 117 16) H nx
theorem q117 (a0 : Value) (H : T OB) (nx : Nat) : evT P pl (.call 117 [a0] false none H nx) =
 .jump (l117_9 a0 (.string ⟨⟨[]⟩⟩) a0 H nx) := by kernel_rfl
theorem q117_9 (t0 t3 t4 : Value) (H : T OB) (nx : Nat) : evT P pl (l117_9 t0 t3 t4 H nx) =
 optK (rdBin P H .neq 2 true (some t4) (some (.int .i64 0))) (fun x0 =>
 bvK x0 (fun b1 => bK b1 (optK (rdBin P H .rem 2 true (some t4) (some (.int .i64 10))) (fun x11 =>
 optK (rdBin P H .lss 2 true (some x11) (some (.int .i64 0))) (fun x12 =>
 bvK x12 (fun b13 => bK b13
 (optK (unV P .neg (some x11)) (fun x14 =>
  .jump (l117_16 t0 t3 t4 x14 H nx)) .bad)
 (.jump (l117_16 t0 t3 t4 x11 H nx))) .bad) .bad) .bad) (optK (rdBin P H .eql 9 true (some t3) (some (.string ⟨⟨[]⟩⟩))) (fun x2 =>
  bvK x2 (fun b3 => bK b3
 (optK (rdBin P H .rem 2 true (some t4) (some (.int .i64 10))) (fun x4 =>
  optK (rdBin P H .lss 2 true (some x4) (some (.int .i64 0))) (fun x5 =>
  bvK x5 (fun b6 => bK b6
 (optK (unV P .neg (some x4)) (fun x7 =>
  .jump (l117_16 t0 t3 t4 x7 H nx)) .bad)
 (.jump (l117_16 t0 t3 t4 x4 H nx))) .bad) .bad) .bad)
 (optK (rdBin P H .lss 2 true (some t0) (some (.int .i64 0))) (fun x8 =>
  bvK x8 (fun b9 => bK b9
 (optK (rdBin P H .add 9 true (some (.string ⟨⟨[45]⟩⟩)) (some t3)) (fun x10 =>
  .ret ⟨.ret x10, false, H, nx⟩) .bad)
 (.ret ⟨.ret t3, false, H, nx⟩)) .bad) .bad)) .bad) .bad)) .bad) .bad := by kernel_rfl
theorem q117_16 (t0 t3 t4 t5 : Value) (H : T OB) (nx : Nat) : evT P pl (l117_16 t0 t3 t4 t5 H nx) =
 optK (rdBin P H .add 2 true (some (.int .i64 48)) (some t5)) (fun x0 =>
 optK (rdConv P H 2 5 (some x0)) (fun x1 =>
 effQ (efBuildSlice P H nx 120 1 (some [(0, x1)])) (fun x2 H nx =>
 optK (rdConv P H 120 9 (some x2)) (fun x3 =>
 optK (rdBin P H .add 9 false (some x3) (some t3)) (fun x4 =>
 optK (rdBin P H .quo 2 true (some t4) (some (.int .i64 10))) (fun x5 =>
 .jump (l117_9 t0 x4 x5 H nx)) .bad) .bad) .bad)) .bad) .bad := by kernel_rfl
def l118_9 (t0 t3 t4 : Value) (H : T OB) (nx : Nat) : Cfg := .at ⟨118, 63, false, [], none, false⟩ (tmOf [(0, t0), (3, t3), (4, t4)]) (todoOf P 118 9) H nx
def l118_18 (t0 t3 t4 t5 : Value) (t20 : Bool) (H : T OB) (nx : Nat) : Cfg := .at ⟨118, 63, false, [], none, false⟩ (tmOf [(0, t0), (3, t3), (4, t4), (5, t5), (20, .bool t20)]) (todoOf P 118 18) H nx
def l118_30 (t0 t3 t4 t5 : Value) (t43 : Bool) (H : T OB) (nx : Nat) : Cfg := .at ⟨118, 63, false, [], none, false⟩ (tmOf [(0, t0), (3, t3), (4, t4), (5, t5), (43, .bool t43)]) (todoOf P 118 30) H nx
theorem q118 (a0 : Value) (H : T OB) (nx : Nat) : evT P pl (.call 118 [a0] false none H nx) =
 effQ (efBuildSlice P H nx 120 1 (some [(0, (.int .u8 34))])) (fun x0 H nx =>
 .jump (l118_9 a0 x0 (.int .i64 0) H nx)) := by kernel_rfl
theorem q118_9 (t0 t3 t4 : Value) (H : T OB) (nx : Nat) : evT P pl (l118_9 t0 t3 t4 H nx) =
 optK (rdLen P #[9] 3 (some [t0])) (fun x0 =>
 optK (rdBin P H .lss 3 false (some t4) (some x0)) (fun x1 =>
 bvK x1 (fun b2 => bK b2
 (optK (rdIndex P 9 (some t0) (some t4)) (fun x3 =>
  optK (rdBin P H .eql 5 true (some x3) (some (.int .u8 34))) (fun x4 =>
  bvK x4 (fun b5 => bK b5 (.jump (l118_18 t0 t3 t4 x3 true H nx)) (optK (rdBin P H .eql 5 true (some x3) (some (.int .u8 92))) (fun x6 =>
  bvK x6 (fun b7 => .jump (l118_18 t0 t3 t4 x3 b7 H nx)) .bad) .bad)) .bad) .bad) .bad)
 (effQ (efBuildSlice P H nx 120 1 (some [(0, (.int .u8 34))])) (fun x8 H nx =>
  effQ (efAppS P H nx [120, 120] (some [t3, x8])) (fun x9 H nx =>
  optK (rdConv P H 120 9 (some x9)) (fun x10 =>
  .ret ⟨.ret x10, false, H, nx⟩) .bad)))) .bad) .bad) .bad := by kernel_rfl
theorem q118_18 (t0 t3 t4 t5 : Value) (t20 : Bool) (H : T OB) (nx : Nat) : evT P pl (l118_18 t0 t3 t4 t5 t20 H nx) =
 bK t20
 (effQ (efBuildSlice P H nx 120 2 (some [(0, (.int .u8 92)), (1, t5)])) (fun x0 H nx =>
  effQ (efAppS P H nx [120, 120] (some [t3, x0])) (fun x1 H nx =>
  optK (rdBin P H .add 3 true (some t4) (some (.int .i64 1))) (fun x2 =>
  .jump (l118_9 t0 x1 x2 H nx)) .bad)))
 (optK (rdBin P H .eql 5 true (some t5) (some (.int .u8 10))) (fun x3 =>
  bvK x3 (fun b4 => bK b4
 (effQ (efBuildSlice P H nx 120 2 (some [(0, (.int .u8 92)), (1, (.int .u8 110))])) (fun x5 H nx =>
  effQ (efAppS P H nx [120, 120] (some [t3, x5])) (fun x6 H nx =>
  optK (rdBin P H .add 3 true (some t4) (some (.int .i64 1))) (fun x7 =>
  .jump (l118_9 t0 x6 x7 H nx)) .bad)))
 (optK (rdBin P H .eql 5 true (some t5) (some (.int .u8 9))) (fun x8 =>
  bvK x8 (fun b9 => bK b9
 (effQ (efBuildSlice P H nx 120 2 (some [(0, (.int .u8 92)), (1, (.int .u8 116))])) (fun x10 H nx =>
  effQ (efAppS P H nx [120, 120] (some [t3, x10])) (fun x11 H nx =>
  optK (rdBin P H .add 3 true (some t4) (some (.int .i64 1))) (fun x12 =>
  .jump (l118_9 t0 x11 x12 H nx)) .bad)))
 (optK (rdBin P H .lss 5 true (some t5) (some (.int .u8 32))) (fun x13 =>
  bvK x13 (fun b14 => bK b14 (.jump (l118_30 t0 t3 t4 t5 true H nx)) (optK (rdBin P H .gtr 5 true (some t5) (some (.int .u8 126))) (fun x15 =>
  bvK x15 (fun b16 => .jump (l118_30 t0 t3 t4 t5 b16 H nx)) .bad) .bad)) .bad) .bad)) .bad) .bad)) .bad) .bad) := by kernel_rfl
theorem q118_30 (t0 t3 t4 t5 : Value) (t43 : Bool) (H : T OB) (nx : Nat) : evT P pl (l118_30 t0 t3 t4 t5 t43 H nx) =
 bK t43
 (optK (rdBin P H .quo 5 true (some t5) (some (.int .u8 16))) (fun x0 =>
  optK (rdIndex P 9 (some (.string ⟨⟨[48, 49, 50, 51, 52, 53, 54, 55, 56, 57, 65, 66, 67, 68, 69, 70]⟩⟩)) (some x0)) (fun x1 =>
  optK (rdBin P H .rem 5 true (some t5) (some (.int .u8 16))) (fun x2 =>
  optK (rdIndex P 9 (some (.string ⟨⟨[48, 49, 50, 51, 52, 53, 54, 55, 56, 57, 65, 66, 67, 68, 69, 70]⟩⟩)) (some x2)) (fun x3 =>
  effQ (efBuildSlice P H nx 120 4 (some [(0, (.int .u8 92)), (1, (.int .u8 120)), (2, x1), (3, x3)])) (fun x4 H nx =>
  effQ (efAppS P H nx [120, 120] (some [t3, x4])) (fun x5 H nx =>
  optK (rdBin P H .add 3 true (some t4) (some (.int .i64 1))) (fun x6 =>
  .jump (l118_9 t0 x5 x6 H nx)) .bad))) .bad) .bad) .bad) .bad)
 (effQ (efBuildSlice P H nx 120 1 (some [(0, t5)])) (fun x7 H nx =>
  effQ (efAppS P H nx [120, 120] (some [t3, x7])) (fun x8 H nx =>
  optK (rdBin P H .add 3 true (some t4) (some (.int .i64 1))) (fun x9 =>
  .jump (l118_9 t0 x8 x9 H nx)) .bad))) := by kernel_rfl
def l126_9 (t1 t2 t5 t6 : Value) (H : T OB) (nx : Nat) : Cfg := .at ⟨126, 36, false, [], none, false⟩ (tmOf [(1, t1), (2, t2), (5, t5), (6, t6)]) (todoOf P 126 9) H nx
theorem q126 (a0 a1 : Value) (H : T OB) (nx : Nat) : evT P pl (.call 126 [a0, a1] false none H nx) =
 natF (Nat.succ nx) (fun nx =>
 optK (rdFieldAddr P 138 (some (eptrV a0)) 1) (fun x0 =>
 optK (rdLoad P H 9 (some x0)) (fun x1 =>
 optK (rdLen P #[9] 3 (some [x1])) (fun x2 =>
 optK (rdBin P H .quo 3 true (some x2) (some (.int .i64 8))) (fun x3 =>
 optK (rdBin P H .add 3 true (some (.int .i64 1)) (some x3)) (fun x4 =>
 .jump (l126_9 a1 (eptrV a0) x4 (.int .i64 0) H nx)) .bad) .bad) .bad) .bad) .bad) := by kernel_rfl
theorem q126_9 (t1 t2 t5 t6 : Value) (H : T OB) (nx : Nat) : evT P pl (l126_9 t1 t2 t5 t6 H nx) =
 optK (rdFieldAddr P 138 (some t2) 2) (fun x0 =>
 optK (rdLoad P H 53 (some x0)) (fun x1 =>
 optK (rdLen P #[53] 3 (some [x1])) (fun x2 =>
 optK (rdBin P H .lss 3 false (some t6) (some x2)) (fun x3 =>
 bvK x3 (fun b4 => bK b4 (optK (rdBin P H .leq 3 false (some t5) (some t1)) (fun x5 =>
 bvK x5 (fun b6 => bK b6
 (optK (rdFieldAddr P 138 (some t2) 2) (fun x7 =>
  optK (rdLoad P H 53 (some x7)) (fun x8 =>
  optK (rdIndexAddr P 53 (some x8) (some t6)) (fun x9 =>
  optK (rdLoad P H 138 (some x9)) (fun x10 =>
  optK (rdBin P H .sub 3 false (some t1) (some t5)) (fun x11 =>
  callQ (.call 126 [x10, x11] false none H nx) (fun x12 H nx =>
  optK (rdBin P H .add 3 false (some t5) (some x12)) (fun x13 =>
  optK (rdBin P H .add 3 true (some t6) (some (.int .i64 1))) (fun x14 =>
  .jump (l126_9 t1 t2 x13 x14 H nx)) .bad) .bad) panK) .bad) .bad) .bad) .bad) .bad)
 (.ret ⟨.ret t5, false, H, nx⟩)) .bad) .bad) (.ret ⟨.ret t5, false, H, nx⟩)) .bad) .bad) .bad) .bad) .bad := by kernel_rfl
theorem q127 (a0 : Value) (a1 : Bool) (H : T OB) (nx : Nat) : evT P pl (.call 127 [a0, .bool a1] false none H nx) =
 optK (rdNil (some a0)) (fun x0 =>
 optK (rdFieldAddr P 116 (some x0) 1) (fun x1 =>
 optK (rdLoad P H 4 (some x1)) (fun x2 =>
 bvK x2 (fun b3 => bK b3 (optK (rdNil (some a0)) (fun x9 =>
 optK (rdFieldAddr P 116 (some x9) 1) (fun x10 =>
 effQ (efStore P H nx 4 (some x10) (some (.bool true))) (fun x11 H nx =>
 .ret ⟨.ret (.tuple ⟨[]⟩), false, H, nx⟩)) .bad) .bad) (optK (unV P .not (some (.bool a1))) (fun x4 =>
 bvK x4 (fun b5 => optK (rdNil (some a0)) (fun x6 =>
 optK (rdFieldAddr P 116 (some x6) 1) (fun x7 =>
 effQ (efStore P H nx 4 (some x7) (some (.bool b5))) (fun x8 H nx =>
 .ret ⟨.ret (.tuple ⟨[]⟩), false, H, nx⟩)) .bad) .bad) .bad) .bad)) .bad) .bad) .bad) .bad := by kernel_rfl
end
end Go.Proofs.YthjhonhhbddhkaaGreatDoor
/- What functions of the program say, as trees. -/
namespace Go.Proofs.YthjhonhhbddhkaaGreatDoor
open Go.Ev Go.RowKit
noncomputable section
set_option linter.unusedVariables false
set_option maxHeartbeats 8000000
def l128_8 (t3 : Bool) (t4 : Bool) (t5 : Bool) (t6 : Value) (t72 : Bool) (H : T OB) (nx : Nat) : Cfg := .at ⟨128, 118, false, [], none, false⟩ (tmOf [(3, .bool t3), (4, .bool t4), (5, .bool t5), (6, t6), (72, .bool t72)]) (todoOf P 128 8) H nx
theorem q128 (a0 : Value) (a1 : Bool) (a2 : Bool) (a3 : Bool) (a4 : Bool) (a5 : Bool) (H : T OB) (nx : Nat) : evT P pl (.call 128 [a0, .bool a1, .bool a2, .bool a3, .bool a4, .bool a5] false none H nx) =
 natF (Nat.succ nx) (fun nx =>
 optK (rdFieldAddr P 57 (some (eptrV a0)) 1) (fun x0 =>
 optK (rdLoad P H 47 (some x0)) (fun x1 =>
 optK (rdFieldAddr P 57 (some (eptrV a0)) 2) (fun x2 =>
 optK (rdLoad P H 44 (some x2)) (fun x3 =>
 effQ (efAlloc P H nx 47) (fun x4 H nx =>
 effQ (efAlloc P H nx 44) (fun x5 H nx =>
 effQ (efStore P H nx 47 (some x4) (some x1)) (fun x6 H nx =>
 bK (optK (rdLoad P H 44 (some x2)) (fun u => vEq u x3) false && true) (effQ (efStore P H nx 44 (some x5) (some x3)) (fun x7 H nx =>
 bK a1 (optK (rdFieldAddr P 47 (some x4) 0) (fun x8 =>
 optK (rdLoad P H 3 (some x8)) (fun x9 =>
 optK (rdBin P H .neq 3 true (some x9) (some (.int .i64 0))) (fun x10 =>
 bvK x10 (fun b11 => bK b11 (.jump (l128_8 a3 a4 a5 (eptrV a0) true H nx)) (optK (rdFieldAddr P 47 (some x4) 2) (fun x12 =>
 optK (rdLoad P H 9 (some x12)) (fun x13 =>
 optK (rdBin P H .neq 9 true (some x13) (some (.string ⟨⟨[]⟩⟩))) (fun x14 =>
 bvK x14 (fun b15 => bK b15 (.jump (l128_8 a3 a4 a5 (eptrV a0) true H nx)) (optK (rdFieldAddr P 47 (some x4) 1) (fun x16 =>
 optK (rdLoad P H 2 (some x16)) (fun x17 =>
 optK (rdBin P H .neq 2 true (some x17) (some (.int .i64 0))) (fun x18 =>
 bvK x18 (fun b19 => bK b19 (.jump (l128_8 a3 a4 a5 (eptrV a0) true H nx)) (optK (rdFieldAddr P 47 (some x4) 3) (fun x20 =>
 optK (rdLoad P H 42 (some x20)) (fun x21 =>
 optK (rdLen P #[42] 3 (some [x21])) (fun x22 =>
 optK (rdBin P H .gtr 3 true (some x22) (some (.int .i64 0))) (fun x23 =>
 bvK x23 (fun b24 => bK b24 (.jump (l128_8 a3 a4 a5 (eptrV a0) true H nx)) (bK a2 (optK (rdFieldAddr P 44 (some x5) 0) (fun x25 =>
 optK (rdLoad P H 3 (some x25)) (fun x26 =>
 optK (rdBin P H .neq 3 true (some x26) (some (.int .i64 0))) (fun x27 =>
 bvK x27 (fun b28 => bK b28 (.jump (l128_8 a3 a4 a5 (eptrV a0) true H nx)) (optK (rdFieldAddr P 44 (some x5) 2) (fun x29 =>
 optK (rdLoad P H 9 (some x29)) (fun x30 =>
 optK (rdBin P H .neq 9 true (some x30) (some (.string ⟨⟨[]⟩⟩))) (fun x31 =>
 bvK x31 (fun b32 => bK b32 (.jump (l128_8 a3 a4 a5 (eptrV a0) true H nx)) (optK (rdFieldAddr P 44 (some x5) 1) (fun x33 =>
 optK (rdLoad P H 2 (some x33)) (fun x34 =>
 optK (rdBin P H .neq 2 true (some x34) (some (.int .i64 0))) (fun x35 =>
 bvK x35 (fun b36 => bK b36 (.jump (l128_8 a3 a4 a5 (eptrV a0) true H nx)) (optK (rdFieldAddr P 44 (some x5) 3) (fun x37 =>
 optK (rdLoad P H 41 (some x37)) (fun x38 =>
 optK (rdLen P #[41] 3 (some [x38])) (fun x39 =>
 optK (rdFieldAddr P 44 (some x5) 4) (fun x40 =>
 optK (rdLoad P H 42 (some x40)) (fun x41 =>
 optK (rdLen P #[42] 3 (some [x41])) (fun x42 =>
 optK (rdBin P H .add 3 false (some x39) (some x42)) (fun x43 =>
 optK (rdFieldAddr P 44 (some x5) 5) (fun x44 =>
 optK (rdLoad P H 24 (some x44)) (fun x45 =>
 optK (rdLen P #[24] 3 (some [x45])) (fun x46 =>
 optK (rdBin P H .add 3 false (some x43) (some x46)) (fun x47 =>
 optK (rdBin P H .gtr 3 true (some x47) (some (.int .i64 0))) (fun x48 =>
 bvK x48 (fun b49 => .jump (l128_8 a3 a4 a5 (eptrV a0) b49 H nx)) .bad) .bad) .bad) .bad) .bad) .bad) .bad) .bad) .bad) .bad) .bad) .bad) .bad)) .bad) .bad) .bad) .bad)) .bad) .bad) .bad) .bad)) .bad) .bad) .bad) .bad) (.jump (l128_8 a3 a4 a5 (eptrV a0) false H nx)))) .bad) .bad) .bad) .bad) .bad)) .bad) .bad) .bad) .bad)) .bad) .bad) .bad) .bad)) .bad) .bad) .bad) .bad) (bK a2 (optK (rdFieldAddr P 44 (some x5) 0) (fun x50 =>
 optK (rdLoad P H 3 (some x50)) (fun x51 =>
 optK (rdBin P H .neq 3 true (some x51) (some (.int .i64 0))) (fun x52 =>
 bvK x52 (fun b53 => bK b53 (.jump (l128_8 a3 a4 a5 (eptrV a0) true H nx)) (optK (rdFieldAddr P 44 (some x5) 2) (fun x54 =>
 optK (rdLoad P H 9 (some x54)) (fun x55 =>
 optK (rdBin P H .neq 9 true (some x55) (some (.string ⟨⟨[]⟩⟩))) (fun x56 =>
 bvK x56 (fun b57 => bK b57 (.jump (l128_8 a3 a4 a5 (eptrV a0) true H nx)) (optK (rdFieldAddr P 44 (some x5) 1) (fun x58 =>
 optK (rdLoad P H 2 (some x58)) (fun x59 =>
 optK (rdBin P H .neq 2 true (some x59) (some (.int .i64 0))) (fun x60 =>
 bvK x60 (fun b61 => bK b61 (.jump (l128_8 a3 a4 a5 (eptrV a0) true H nx)) (optK (rdFieldAddr P 44 (some x5) 3) (fun x62 =>
 optK (rdLoad P H 41 (some x62)) (fun x63 =>
 optK (rdLen P #[41] 3 (some [x63])) (fun x64 =>
 optK (rdFieldAddr P 44 (some x5) 4) (fun x65 =>
 optK (rdLoad P H 42 (some x65)) (fun x66 =>
 optK (rdLen P #[42] 3 (some [x66])) (fun x67 =>
 optK (rdBin P H .add 3 false (some x64) (some x67)) (fun x68 =>
 optK (rdFieldAddr P 44 (some x5) 5) (fun x69 =>
 optK (rdLoad P H 24 (some x69)) (fun x70 =>
 optK (rdLen P #[24] 3 (some [x70])) (fun x71 =>
 optK (rdBin P H .add 3 false (some x68) (some x71)) (fun x72 =>
 optK (rdBin P H .gtr 3 true (some x72) (some (.int .i64 0))) (fun x73 =>
 bvK x73 (fun b74 => .jump (l128_8 a3 a4 a5 (eptrV a0) b74 H nx)) .bad) .bad) .bad) .bad) .bad) .bad) .bad) .bad) .bad) .bad) .bad) .bad) .bad)) .bad) .bad) .bad) .bad)) .bad) .bad) .bad) .bad)) .bad) .bad) .bad) .bad) (.jump (l128_8 a3 a4 a5 (eptrV a0) false H nx))))) .bad)))) .bad) .bad) .bad) .bad) := by kernel_rfl
theorem q128_8 (t3 : Bool) (t4 : Bool) (t5 : Bool) (t6 : Value) (t72 : Bool) (H : T OB) (nx : Nat) : evT P pl (l128_8 t3 t4 t5 t6 t72 H nx) =
 bK t72
 (.ret ⟨.ret (.bool false), false, H, nx⟩)
 (bK t3 (optK (rdFieldAddr P 57 (some t6) 3) (fun x0 =>
  optK (rdLoad P H 48 (some x0)) (fun x1 =>
  optK (rdLen P #[48] 3 (some [x1])) (fun x2 =>
  optK (rdBin P H .gtr 3 true (some x2) (some (.int .i64 0))) (fun x3 =>
  bvK x3 (fun b4 => bK b4 (.ret ⟨.ret (.bool false), false, H, nx⟩) (bK t4 (optK (rdFieldAddr P 57 (some t6) 4) (fun x5 =>
  optK (rdFieldAddr P 52 (some x5) 1) (fun x6 =>
  optK (rdLoad P H 9 (some x6)) (fun x7 =>
  optK (rdBin P H .neq 9 true (some x7) (some (.string ⟨⟨[]⟩⟩))) (fun x8 =>
  bvK x8 (fun b9 => bK b9 (.ret ⟨.ret (.bool false), false, H, nx⟩) (optK (rdFieldAddr P 57 (some t6) 4) (fun x10 =>
  optK (rdFieldAddr P 52 (some x10) 0) (fun x11 =>
  optK (rdLoad P H 49 (some x11)) (fun x12 =>
  optK (rdLen P #[49] 3 (some [x12])) (fun x13 =>
  optK (rdFieldAddr P 57 (some t6) 4) (fun x14 =>
  optK (rdFieldAddr P 52 (some x14) 2) (fun x15 =>
  optK (rdLoad P H 50 (some x15)) (fun x16 =>
  optK (rdLen P #[50] 3 (some [x16])) (fun x17 =>
  optK (rdBin P H .add 3 false (some x13) (some x17)) (fun x18 =>
  optK (rdBin P H .gtr 3 true (some x18) (some (.int .i64 0))) (fun x19 =>
  bvK x19 (fun b20 => bK b20 (.ret ⟨.ret (.bool false), false, H, nx⟩) (bK t5 (optK (rdFieldAddr P 57 (some t6) 5) (fun x21 =>
  optK (rdFieldAddr P 55 (some x21) 0) (fun x22 =>
  optK (rdLoad P H 9 (some x22)) (fun x23 =>
  optK (rdBin P H .neq 9 true (some x23) (some (.string ⟨⟨[]⟩⟩))) (fun x24 =>
  bvK x24 (fun b25 => bK b25 (.ret ⟨.ret (.bool false), false, H, nx⟩) (optK (rdFieldAddr P 57 (some t6) 5) (fun x26 =>
  optK (rdFieldAddr P 55 (some x26) 1) (fun x27 =>
  optK (rdLoad P H 53 (some x27)) (fun x28 =>
  optK (rdLen P #[53] 3 (some [x28])) (fun x29 =>
  optK (rdBin P H .gtr 3 true (some x29) (some (.int .i64 0))) (fun x30 =>
  bvK x30 (fun b31 => optK (unV P .not (some (.bool b31))) (fun x32 =>
  bvK x32 (fun b33 => .ret ⟨.ret (.bool b33), false, H, nx⟩) .bad) .bad) .bad) .bad) .bad) .bad) .bad) .bad)) .bad) .bad) .bad) .bad) .bad) (.ret ⟨.ret (.bool true), false, H, nx⟩))) .bad) .bad) .bad) .bad) .bad) .bad) .bad) .bad) .bad) .bad) .bad)) .bad) .bad) .bad) .bad) .bad) (bK t5 (optK (rdFieldAddr P 57 (some t6) 5) (fun x34 =>
  optK (rdFieldAddr P 55 (some x34) 0) (fun x35 =>
  optK (rdLoad P H 9 (some x35)) (fun x36 =>
  optK (rdBin P H .neq 9 true (some x36) (some (.string ⟨⟨[]⟩⟩))) (fun x37 =>
  bvK x37 (fun b38 => bK b38 (.ret ⟨.ret (.bool false), false, H, nx⟩) (optK (rdFieldAddr P 57 (some t6) 5) (fun x39 =>
  optK (rdFieldAddr P 55 (some x39) 1) (fun x40 =>
  optK (rdLoad P H 53 (some x40)) (fun x41 =>
  optK (rdLen P #[53] 3 (some [x41])) (fun x42 =>
  optK (rdBin P H .gtr 3 true (some x42) (some (.int .i64 0))) (fun x43 =>
  bvK x43 (fun b44 => optK (unV P .not (some (.bool b44))) (fun x45 =>
  bvK x45 (fun b46 => .ret ⟨.ret (.bool b46), false, H, nx⟩) .bad) .bad) .bad) .bad) .bad) .bad) .bad) .bad)) .bad) .bad) .bad) .bad) .bad) (.ret ⟨.ret (.bool true), false, H, nx⟩)))) .bad) .bad) .bad) .bad) .bad) (bK t4 (optK (rdFieldAddr P 57 (some t6) 4) (fun x47 =>
  optK (rdFieldAddr P 52 (some x47) 1) (fun x48 =>
  optK (rdLoad P H 9 (some x48)) (fun x49 =>
  optK (rdBin P H .neq 9 true (some x49) (some (.string ⟨⟨[]⟩⟩))) (fun x50 =>
  bvK x50 (fun b51 => bK b51 (.ret ⟨.ret (.bool false), false, H, nx⟩) (optK (rdFieldAddr P 57 (some t6) 4) (fun x52 =>
  optK (rdFieldAddr P 52 (some x52) 0) (fun x53 =>
  optK (rdLoad P H 49 (some x53)) (fun x54 =>
  optK (rdLen P #[49] 3 (some [x54])) (fun x55 =>
  optK (rdFieldAddr P 57 (some t6) 4) (fun x56 =>
  optK (rdFieldAddr P 52 (some x56) 2) (fun x57 =>
  optK (rdLoad P H 50 (some x57)) (fun x58 =>
  optK (rdLen P #[50] 3 (some [x58])) (fun x59 =>
  optK (rdBin P H .add 3 false (some x55) (some x59)) (fun x60 =>
  optK (rdBin P H .gtr 3 true (some x60) (some (.int .i64 0))) (fun x61 =>
  bvK x61 (fun b62 => bK b62 (.ret ⟨.ret (.bool false), false, H, nx⟩) (bK t5 (optK (rdFieldAddr P 57 (some t6) 5) (fun x63 =>
  optK (rdFieldAddr P 55 (some x63) 0) (fun x64 =>
  optK (rdLoad P H 9 (some x64)) (fun x65 =>
  optK (rdBin P H .neq 9 true (some x65) (some (.string ⟨⟨[]⟩⟩))) (fun x66 =>
  bvK x66 (fun b67 => bK b67 (.ret ⟨.ret (.bool false), false, H, nx⟩) (optK (rdFieldAddr P 57 (some t6) 5) (fun x68 =>
  optK (rdFieldAddr P 55 (some x68) 1) (fun x69 =>
  optK (rdLoad P H 53 (some x69)) (fun x70 =>
  optK (rdLen P #[53] 3 (some [x70])) (fun x71 =>
  optK (rdBin P H .gtr 3 true (some x71) (some (.int .i64 0))) (fun x72 =>
  bvK x72 (fun b73 => optK (unV P .not (some (.bool b73))) (fun x74 =>
  bvK x74 (fun b75 => .ret ⟨.ret (.bool b75), false, H, nx⟩) .bad) .bad) .bad) .bad) .bad) .bad) .bad) .bad)) .bad) .bad) .bad) .bad) .bad) (.ret ⟨.ret (.bool true), false, H, nx⟩))) .bad) .bad) .bad) .bad) .bad) .bad) .bad) .bad) .bad) .bad) .bad)) .bad) .bad) .bad) .bad) .bad) (bK t5 (optK (rdFieldAddr P 57 (some t6) 5) (fun x76 =>
  optK (rdFieldAddr P 55 (some x76) 0) (fun x77 =>
  optK (rdLoad P H 9 (some x77)) (fun x78 =>
  optK (rdBin P H .neq 9 true (some x78) (some (.string ⟨⟨[]⟩⟩))) (fun x79 =>
  bvK x79 (fun b80 => bK b80 (.ret ⟨.ret (.bool false), false, H, nx⟩) (optK (rdFieldAddr P 57 (some t6) 5) (fun x81 =>
  optK (rdFieldAddr P 55 (some x81) 1) (fun x82 =>
  optK (rdLoad P H 53 (some x82)) (fun x83 =>
  optK (rdLen P #[53] 3 (some [x83])) (fun x84 =>
  optK (rdBin P H .gtr 3 true (some x84) (some (.int .i64 0))) (fun x85 =>
  bvK x85 (fun b86 => optK (unV P .not (some (.bool b86))) (fun x87 =>
  bvK x87 (fun b88 => .ret ⟨.ret (.bool b88), false, H, nx⟩) .bad) .bad) .bad) .bad) .bad) .bad) .bad) .bad)) .bad) .bad) .bad) .bad) .bad) (.ret ⟨.ret (.bool true), false, H, nx⟩)))) := by kernel_rfl
theorem q129 (a0 : Value) (H : T OB) (nx : Nat) : evT P pl (.call 129 [a0] false none H nx) =
 effQ (efAlloc P H nx 31) (fun x0 H nx =>
 optK (rdBuild P 31 (some [(0, (.int .i64 6)), (1, a0)])) (fun x1 =>
 effQ (efStore P H nx 31 (some x0) (some x1)) (fun x2 H nx =>
 optK (rdLoad P H 31 (some x0)) (fun x3 =>
 .ret ⟨.ret x3, false, H, nx⟩) .bad)) .bad) := by kernel_rfl
def l130_14 (t0 : Value) (H : T OB) (nx : Nat) : Cfg := .at ⟨130, 136, false, [], none, false⟩ (tmOf [(0, t0)]) (todoOf P 130 14) H nx
def l130_20 (t0 t3 : Value) (H : T OB) (nx : Nat) : Cfg := .at ⟨130, 136, false, [], none, false⟩ (tmOf [(0, t0), (3, t3)]) (todoOf P 130 20) H nx
def l130_26 (t0 t3 : Value) (H : T OB) (nx : Nat) : Cfg := .at ⟨130, 136, false, [], none, false⟩ (tmOf [(0, t0), (3, t3)]) (todoOf P 130 26) H nx
def l130_38 (t0 t3 : Value) (H : T OB) (nx : Nat) : Cfg := .at ⟨130, 136, false, [], none, false⟩ (tmOf [(0, t0), (3, t3)]) (todoOf P 130 38) H nx
def l130_44 (t0 t3 : Value) (H : T OB) (nx : Nat) : Cfg := .at ⟨130, 136, false, [], none, false⟩ (tmOf [(0, t0), (3, t3)]) (todoOf P 130 44) H nx
def l130_28 (t0 t3 : Value) (t72 : Bool) (H : T OB) (nx : Nat) : Cfg := .at ⟨130, 136, false, [], none, false⟩ (tmOf [(0, t0), (3, t3), (72, .bool t72)]) (todoOf P 130 28) H nx
theorem q130 (a0 a1 : Value) (H : T OB) (nx : Nat) : evT P pl (.call 130 [a0, a1] false none H nx) =
 effQ (efBox H nx 47 (some a1)) (fun x0 H nx =>
 optK (rdFieldAddr P 47 (some x0) 3) (fun x1 =>
 optK (rdLoad P H 42 (some x1)) (fun x2 =>
 optK (rdLen P #[42] 3 (some [x2])) (fun x3 =>
 optK (rdBin P H .eql 3 true (some x3) (some (.int .i64 0))) (fun x4 =>
 bvK x4 (fun b5 => optK (rdFieldAddr P 47 (some x0) 0) (fun x6 =>
 optK (rdLoad P H 3 (some x6)) (fun x7 =>
 optK (rdBin P H .eql 3 true (some x7) (some (.int .i64 1))) (fun x8 =>
 bvK x8 (fun b9 => bK b9
 (bK b5 (optK (rdFieldAddr P 47 (some x0) 2) (fun x10 =>
  optK (rdLoad P H 9 (some x10)) (fun x11 =>
  optK (rdBin P H .eql 9 true (some x11) (some (.string ⟨⟨[]⟩⟩))) (fun x12 =>
  bvK x12 (fun b13 => bK b13 (optK (rdFieldAddr P 47 (some x0) 1) (fun x14 =>
  optK (rdLoad P H 2 (some x14)) (fun x15 =>
  optK (rdBin P H .eql 2 true (some x15) (some (.int .i64 0))) (fun x16 =>
  bvK x16 (fun b17 => callQ (.call 127 [a0, (.bool b17)] false none H nx) (fun x18 H nx =>
  .jump (l130_14 a0 H nx)) panK) .bad) .bad) .bad) .bad) (callQ (.call 127 [a0, (.bool false)] false none H nx) (fun x19 H nx =>
  .jump (l130_14 a0 H nx)) panK)) .bad) .bad) .bad) .bad) (callQ (.call 127 [a0, (.bool false)] false none H nx) (fun x20 H nx =>
  .jump (l130_14 a0 H nx)) panK))
 (optK (rdBin P H .eql 3 true (some x7) (some (.int .i64 2))) (fun x21 =>
  bvK x21 (fun b22 => bK b22
 (bK b5 (optK (rdFieldAddr P 47 (some x0) 1) (fun x23 =>
  optK (rdLoad P H 2 (some x23)) (fun x24 =>
  optK (rdBin P H .eql 2 true (some x24) (some (.int .i64 0))) (fun x25 =>
  bvK x25 (fun b26 => callQ (.call 127 [a0, (.bool b26)] false none H nx) (fun x27 H nx =>
  .jump (l130_20 a0 x0 H nx)) panK) .bad) .bad) .bad) .bad) (callQ (.call 127 [a0, (.bool false)] false none H nx) (fun x28 H nx =>
  .jump (l130_20 a0 x0 H nx)) panK))
 (optK (rdBin P H .eql 3 true (some x7) (some (.int .i64 3))) (fun x29 =>
  bvK x29 (fun b30 => bK b30
 (bK b5 (optK (rdFieldAddr P 47 (some x0) 2) (fun x31 =>
  optK (rdLoad P H 9 (some x31)) (fun x32 =>
  optK (rdBin P H .eql 9 true (some x32) (some (.string ⟨⟨[]⟩⟩))) (fun x33 =>
  bvK x33 (fun b34 => bK b34 (optK (rdFieldAddr P 47 (some x0) 1) (fun x35 =>
  optK (rdLoad P H 2 (some x35)) (fun x36 =>
  optK (rdBin P H .geq 2 true (some x36) (some (.int .i64 (-4611686018427387903)))) (fun x37 =>
  bvK x37 (fun b38 => callQ (.call 127 [a0, (.bool b38)] false none H nx) (fun x39 H nx =>
  .jump (l130_26 a0 x0 H nx)) panK) .bad) .bad) .bad) .bad) (callQ (.call 127 [a0, (.bool false)] false none H nx) (fun x40 H nx =>
  .jump (l130_26 a0 x0 H nx)) panK)) .bad) .bad) .bad) .bad) (callQ (.call 127 [a0, (.bool false)] false none H nx) (fun x41 H nx =>
  .jump (l130_26 a0 x0 H nx)) panK))
 (optK (rdBin P H .eql 3 true (some x7) (some (.int .i64 4))) (fun x42 =>
  bvK x42 (fun b43 => bK b43
 (bK b5 (optK (rdFieldAddr P 47 (some x0) 1) (fun x44 =>
  optK (rdLoad P H 2 (some x44)) (fun x45 =>
  optK (rdBin P H .eql 2 true (some x45) (some (.int .i64 0))) (fun x46 =>
  bvK x46 (fun b47 => callQ (.call 127 [a0, (.bool b47)] false none H nx) (fun x48 H nx =>
  .jump (l130_38 a0 x0 H nx)) panK) .bad) .bad) .bad) .bad) (callQ (.call 127 [a0, (.bool false)] false none H nx) (fun x49 H nx =>
  .jump (l130_38 a0 x0 H nx)) panK))
 (optK (rdBin P H .eql 3 true (some x7) (some (.int .i64 5))) (fun x50 =>
  bvK x50 (fun b51 => bK b51
 (optK (rdFieldAddr P 47 (some x0) 3) (fun x52 =>
  optK (rdLoad P H 42 (some x52)) (fun x53 =>
  optK (rdLen P #[42] 3 (some [x53])) (fun x54 =>
  optK (rdBin P H .neq 3 true (some x54) (some (.int .i64 1))) (fun x55 =>
  bvK x55 (fun b56 => bK b56 (optK (rdFieldAddr P 47 (some x0) 2) (fun x57 =>
  optK (rdLoad P H 9 (some x57)) (fun x58 =>
  optK (rdBin P H .eql 9 true (some x58) (some (.string ⟨⟨[]⟩⟩))) (fun x59 =>
  bvK x59 (fun b60 => bK b60 (optK (rdFieldAddr P 47 (some x0) 1) (fun x61 =>
  optK (rdLoad P H 2 (some x61)) (fun x62 =>
  optK (rdBin P H .eql 2 true (some x62) (some (.int .i64 0))) (fun x63 =>
  bvK x63 (fun b64 => callQ (.call 127 [a0, (.bool b64)] false none H nx) (fun x65 H nx =>
  .jump (l130_44 a0 x0 H nx)) panK) .bad) .bad) .bad) .bad) (callQ (.call 127 [a0, (.bool false)] false none H nx) (fun x66 H nx =>
  .jump (l130_44 a0 x0 H nx)) panK)) .bad) .bad) .bad) .bad) (callQ (.call 127 [a0, (.bool false)] false none H nx) (fun x67 H nx =>
  .jump (l130_44 a0 x0 H nx)) panK)) .bad) .bad) .bad) .bad) .bad)
 (optK (rdBin P H .eql 3 true (some x7) (some (.int .i64 6))) (fun x68 =>
  bvK x68 (fun b69 => bK b69
 (optK (rdLoad P H 47 (some x0)) (fun x70 =>
  callQ (.call 163 [a0, x70] false none H nx) (fun x71 H nx =>
  .ret ⟨.ret (.tuple ⟨[]⟩), false, H, nx⟩) panK) .bad)
 (optK (rdNil (some a0)) (fun x72 =>
  optK (rdFieldAddr P 116 (some x72) 1) (fun x73 =>
  effQ (efStore P H nx 4 (some x73) (some (.bool true))) (fun x74 H nx =>
  .ret ⟨.ret (.tuple ⟨[]⟩), false, H, nx⟩)) .bad) .bad)) .bad) .bad)) .bad) .bad)) .bad) .bad)) .bad) .bad)) .bad) .bad)) .bad) .bad) .bad) .bad) .bad) .bad) .bad) .bad) .bad) := by kernel_rfl
theorem q130_14 (t0 : Value) (H : T OB) (nx : Nat) : evT P pl (l130_14 t0 H nx) =
 callQ (.call 77 [(.string ⟨⟨[95]⟩⟩)] false none H nx) (fun x0 H nx =>
 effQ (efBuildSlice P H nx 29 1 (some [(0, x0)])) (fun x1 H nx =>
 callQ (.call 76 [t0, x1] false none H nx) (fun x2 H nx =>
 .ret ⟨.ret (.tuple ⟨[]⟩), false, H, nx⟩) panK)) panK := by kernel_rfl
theorem q130_20 (t0 t3 : Value) (H : T OB) (nx : Nat) : evT P pl (l130_20 t0 t3 H nx) =
 optK (rdFieldAddr P 47 (some t3) 2) (fun x0 =>
 optK (rdLoad P H 9 (some x0)) (fun x1 =>
 optK (rdBuild P 31 (some [(0, (.int .i64 3)), (1, x1)])) (fun x2 =>
 callQ (.call 132 [t0, x2] false none H nx) (fun x3 H nx =>
 .ret ⟨.ret (.tuple ⟨[]⟩), false, H, nx⟩) panK) .bad) .bad) .bad := by kernel_rfl
theorem q130_26 (t0 t3 : Value) (H : T OB) (nx : Nat) : evT P pl (l130_26 t0 t3 H nx) =
 optK (rdFieldAddr P 47 (some t3) 1) (fun x0 =>
 optK (rdLoad P H 2 (some x0)) (fun x1 =>
 optK (rdBin P H .lss 2 true (some x1) (some (.int .i64 0))) (fun x2 =>
 bvK x2 (fun b3 => bK b3 (optK (rdNil (some t0)) (fun x4 =>
 optK (rdFieldAddr P 116 (some x4) 1) (fun x5 =>
 optK (rdLoad P H 4 (some x5)) (fun x6 =>
 bvK x6 (fun b7 => optK (unV P .not (some (.bool b7))) (fun x8 =>
 bvK x8 (fun b9 => .jump (l130_28 t0 t3 b9 H nx)) .bad) .bad) .bad) .bad) .bad) .bad) (.jump (l130_28 t0 t3 false H nx))) .bad) .bad) .bad) .bad := by kernel_rfl
theorem q130_38 (t0 t3 : Value) (H : T OB) (nx : Nat) : evT P pl (l130_38 t0 t3 H nx) =
 optK (rdFieldAddr P 47 (some t3) 2) (fun x0 =>
 optK (rdLoad P H 9 (some x0)) (fun x1 =>
 optK (rdBuild P 31 (some [(0, (.int .i64 2)), (1, x1)])) (fun x2 =>
 callQ (.call 132 [t0, x2] false none H nx) (fun x3 H nx =>
 .ret ⟨.ret (.tuple ⟨[]⟩), false, H, nx⟩) panK) .bad) .bad) .bad := by kernel_rfl
theorem q130_44 (t0 t3 : Value) (H : T OB) (nx : Nat) : evT P pl (l130_44 t0 t3 H nx) =
 callQ (.call 77 [(.string ⟨⟨[40]⟩⟩)] false none H nx) (fun x0 H nx =>
 effQ (efBuildSlice P H nx 29 1 (some [(0, x0)])) (fun x1 H nx =>
 callQ (.call 76 [t0, x1] false none H nx) (fun x2 H nx =>
 optK (rdFieldAddr P 47 (some t3) 3) (fun x3 =>
 optK (rdLoad P H 42 (some x3)) (fun x4 =>
 callQ (.call 162 [t0, x4] false none H nx) (fun x5 H nx =>
 callQ (.call 77 [(.string ⟨⟨[41]⟩⟩)] false none H nx) (fun x6 H nx =>
 effQ (efBuildSlice P H nx 29 1 (some [(0, x6)])) (fun x7 H nx =>
 callQ (.call 76 [t0, x7] false none H nx) (fun x8 H nx =>
 .ret ⟨.ret (.tuple ⟨[]⟩), false, H, nx⟩) panK)) panK) panK) .bad) .bad) panK)) panK := by kernel_rfl
theorem q130_28 (t0 t3 : Value) (t72 : Bool) (H : T OB) (nx : Nat) : evT P pl (l130_28 t0 t3 t72 H nx) =
 bK t72
 (callQ (.call 77 [(.string ⟨⟨[126]⟩⟩)] false none H nx) (fun x0 H nx =>
  effQ (efBuildSlice P H nx 29 1 (some [(0, x0)])) (fun x1 H nx =>
  callQ (.call 76 [t0, x1] false none H nx) (fun x2 H nx =>
  optK (rdFieldAddr P 47 (some t3) 1) (fun x3 =>
  optK (rdLoad P H 2 (some x3)) (fun x4 =>
  optK (unV P .neg (some x4)) (fun x5 =>
  optK (rdFieldAddr P 47 (some t3) 1) (fun x6 =>
  effQ (efStore P H nx 2 (some x6) (some x5)) (fun x7 H nx =>
  optK (rdFieldAddr P 47 (some t3) 1) (fun x8 =>
  optK (rdLoad P H 2 (some x8)) (fun x9 =>
  optK (rdBuild P 31 (some [(0, (.int .i64 1)), (2, x9)])) (fun x10 =>
  callQ (.call 132 [t0, x10] false none H nx) (fun x11 H nx =>
  .ret ⟨.ret (.tuple ⟨[]⟩), false, H, nx⟩) panK) .bad) .bad) .bad)) .bad) .bad) .bad) .bad) panK)) panK)
 (optK (rdFieldAddr P 47 (some t3) 1) (fun x12 =>
  optK (rdLoad P H 2 (some x12)) (fun x13 =>
  optK (rdBuild P 31 (some [(0, (.int .i64 1)), (2, x13)])) (fun x14 =>
  callQ (.call 132 [t0, x14] false none H nx) (fun x15 H nx =>
  .ret ⟨.ret (.tuple ⟨[]⟩), false, H, nx⟩) panK) .bad) .bad) .bad) := by kernel_rfl
end
end Go.Proofs.YthjhonhhbddhkaaGreatDoor
/- What functions of the program say, as trees. -/
namespace Go.Proofs.YthjhonhhbddhkaaGreatDoor
open Go.Ev Go.RowKit
noncomputable section
set_option linter.unusedVariables false
set_option maxHeartbeats 8000000
def l131_36 (t0 t3 t7 : Value) (t51 : Bool) (H : T OB) (nx : Nat) : Cfg := .at ⟨131, 173, false, [], none, false⟩ (tmOf [(0, t0), (3, t3), (7, t7), (51, .bool t51)]) (todoOf P 131 36) H nx
def l131_40 (t0 t3 : Value) (H : T OB) (nx : Nat) : Cfg := .at ⟨131, 173, false, [], none, false⟩ (tmOf [(0, t0), (3, t3)]) (todoOf P 131 40) H nx
def l131_83 (t0 t163 t164 t165 : Value) (H : T OB) (nx : Nat) : Cfg := .at ⟨131, 173, false, [], none, false⟩ (tmOf [(0, t0), (163, t163), (164, t164), (165, t165)]) (todoOf P 131 83) H nx
theorem q131 (a0 a1 : Value) (H : T OB) (nx : Nat) : evT P pl (.call 131 [a0, a1] false none H nx) =
 natF (Nat.succ nx) (fun nx =>
 optK (rdFieldAddr P 44 (some (eptrV a1)) 0) (fun x0 =>
 optK (rdLoad P H 3 (some x0)) (fun x1 =>
 optK (rdBin P H .eql 3 true (some x1) (some (.int .i64 1))) (fun x2 =>
 bvK x2 (fun b3 => bK b3
 (optK (rdLoad P H 44 (some (eptrV a1))) (fun x4 =>
  callQ (.call 164 [a0, x4, (.int .i64 0), (.bool false), (.bool true), (.bool false), (.bool false)] false none H nx) (fun x5 H nx =>
  optK (rdFieldAddr P 44 (some (eptrV a1)) 1) (fun x6 =>
  optK (rdLoad P H 2 (some x6)) (fun x7 =>
  optK (rdBuild P 31 (some [(0, (.int .i64 1)), (2, x7)])) (fun x8 =>
  callQ (.call 132 [a0, x8] false none H nx) (fun x9 H nx =>
  .ret ⟨.ret (.tuple ⟨[]⟩), false, H, nx⟩) panK) .bad) .bad) .bad) panK) .bad)
 (optK (rdBin P H .eql 3 true (some x1) (some (.int .i64 2))) (fun x10 =>
  bvK x10 (fun b11 => bK b11
 (optK (rdLoad P H 44 (some (eptrV a1))) (fun x12 =>
  callQ (.call 164 [a0, x12, (.int .i64 0), (.bool true), (.bool false), (.bool false), (.bool false)] false none H nx) (fun x13 H nx =>
  optK (rdFieldAddr P 44 (some (eptrV a1)) 2) (fun x14 =>
  optK (rdLoad P H 9 (some x14)) (fun x15 =>
  optK (rdBuild P 31 (some [(0, (.int .i64 2)), (1, x15)])) (fun x16 =>
  callQ (.call 132 [a0, x16] false none H nx) (fun x17 H nx =>
  .ret ⟨.ret (.tuple ⟨[]⟩), false, H, nx⟩) panK) .bad) .bad) .bad) panK) .bad)
 (optK (rdBin P H .eql 3 true (some x1) (some (.int .i64 3))) (fun x18 =>
  bvK x18 (fun b19 => bK b19
 (optK (rdLoad P H 44 (some (eptrV a1))) (fun x20 =>
  callQ (.call 164 [a0, x20, (.int .i64 0), (.bool true), (.bool false), (.bool false), (.bool false)] false none H nx) (fun x21 H nx =>
  optK (rdFieldAddr P 44 (some (eptrV a1)) 2) (fun x22 =>
  optK (rdLoad P H 9 (some x22)) (fun x23 =>
  optK (rdBuild P 31 (some [(0, (.int .i64 3)), (1, x23)])) (fun x24 =>
  callQ (.call 132 [a0, x24] false none H nx) (fun x25 H nx =>
  .ret ⟨.ret (.tuple ⟨[]⟩), false, H, nx⟩) panK) .bad) .bad) .bad) panK) .bad)
 (optK (rdBin P H .eql 3 true (some x1) (some (.int .i64 4))) (fun x26 =>
  bvK x26 (fun b27 => bK b27
 (optK (rdLoad P H 44 (some (eptrV a1))) (fun x28 =>
  callQ (.call 164 [a0, x28, (.int .i64 0), (.bool true), (.bool false), (.bool false), (.bool false)] false none H nx) (fun x29 H nx =>
  optK (rdFieldAddr P 44 (some (eptrV a1)) 2) (fun x30 =>
  optK (rdLoad P H 9 (some x30)) (fun x31 =>
  optK (rdBuild P 31 (some [(0, (.int .i64 4)), (1, x31)])) (fun x32 =>
  callQ (.call 132 [a0, x32] false none H nx) (fun x33 H nx =>
  .ret ⟨.ret (.tuple ⟨[]⟩), false, H, nx⟩) panK) .bad) .bad) .bad) panK) .bad)
 (optK (rdBin P H .eql 3 true (some x1) (some (.int .i64 5))) (fun x34 =>
  bvK x34 (fun b35 => bK b35
 (.jump (l131_36 a0 (eptrV a1) x1 b35 H nx))
 (optK (rdBin P H .eql 3 true (some x1) (some (.int .i64 13))) (fun x36 =>
  bvK x36 (fun b37 => .jump (l131_36 a0 (eptrV a1) x1 b37 H nx)) .bad) .bad)) .bad) .bad)) .bad) .bad)) .bad) .bad)) .bad) .bad)) .bad) .bad) .bad) .bad) := by kernel_rfl
theorem q131_36 (t0 t3 t7 : Value) (t51 : Bool) (H : T OB) (nx : Nat) : evT P pl (l131_36 t0 t3 t7 t51 H nx) =
 bK t51
 (optK (rdLoad P H 44 (some t3)) (fun x0 =>
  callQ (.call 164 [t0, x0, (.int .i64 (-1)), (.bool false), (.bool false), (.bool false), (.bool false)] false none H nx) (fun x1 H nx =>
  optK (rdFieldAddr P 44 (some t3) 3) (fun x2 =>
  optK (rdLoad P H 41 (some x2)) (fun x3 =>
  optK (rdLen P #[41] 3 (some [x3])) (fun x4 =>
  optK (rdBin P H .gtr 3 true (some x4) (some (.int .i64 1))) (fun x5 =>
  bvK x5 (fun b6 => bK b6 (callQ (.call 127 [t0, (.bool true)] false none H nx) (fun x18 H nx =>
  .jump (l131_40 t0 t3 H nx)) panK) (optK (rdFieldAddr P 44 (some t3) 3) (fun x7 =>
  optK (rdLoad P H 41 (some x7)) (fun x8 =>
  optK (rdLen P #[41] 3 (some [x8])) (fun x9 =>
  optK (rdBin P H .eql 3 true (some x9) (some (.int .i64 0))) (fun x10 =>
  bvK x10 (fun b11 => bK b11 (optK (rdFieldAddr P 44 (some t3) 0) (fun x12 =>
  optK (rdLoad P H 3 (some x12)) (fun x13 =>
  optK (rdBin P H .eql 3 true (some x13) (some (.int .i64 5))) (fun x14 =>
  bvK x14 (fun b15 => callQ (.call 127 [t0, (.bool b15)] false none H nx) (fun x16 H nx =>
  .jump (l131_40 t0 t3 H nx)) panK) .bad) .bad) .bad) .bad) (callQ (.call 127 [t0, (.bool false)] false none H nx) (fun x17 H nx =>
  .jump (l131_40 t0 t3 H nx)) panK)) .bad) .bad) .bad) .bad) .bad)) .bad) .bad) .bad) .bad) .bad) panK) .bad)
 (optK (rdBin P H .eql 3 true (some t7) (some (.int .i64 10))) (fun x19 =>
  bvK x19 (fun b20 => bK b20
 (optK (rdLoad P H 44 (some t3)) (fun x21 =>
  callQ (.call 166 [t0, x21] false none H nx) (fun x22 H nx =>
  .ret ⟨.ret (.tuple ⟨[]⟩), false, H, nx⟩) panK) .bad)
 (optK (rdBin P H .eql 3 true (some t7) (some (.int .i64 14))) (fun x23 =>
  bvK x23 (fun b24 => bK b24
 (optK (rdLoad P H 44 (some t3)) (fun x25 =>
  callQ (.call 164 [t0, x25, (.int .i64 2), (.bool true), (.bool false), (.bool false), (.bool false)] false none H nx) (fun x26 H nx =>
  optK (rdFieldAddr P 44 (some t3) 2) (fun x27 =>
  optK (rdLoad P H 9 (some x27)) (fun x28 =>
  callQ (.call 167 [x28] false none H nx) (fun x29 H nx =>
  bvK x29 (fun b30 => callQ (.call 127 [t0, (.bool b30)] false none H nx) (fun x31 H nx =>
  optK (rdNil (some t0)) (fun x32 =>
  optK (rdFieldAddr P 116 (some x32) 1) (fun x33 =>
  optK (rdLoad P H 4 (some x33)) (fun x34 =>
  bvK x34 (fun b35 => optK (unV P .not (some (.bool b35))) (fun x36 =>
  bvK x36 (fun b37 => bK b37
 (optK (rdFieldAddr P 44 (some t3) 3) (fun x38 =>
  optK (rdLoad P H 41 (some x38)) (fun x39 =>
  optK (rdIndexAddr P 41 (some x39) (some (.int .i64 0))) (fun x40 =>
  optK (rdLoad P H 44 (some x40)) (fun x41 =>
  callQ (.call 168 [t0, x41] false none H nx) (fun x42 H nx =>
  optK (rdFieldAddr P 44 (some t3) 2) (fun x43 =>
  optK (rdLoad P H 9 (some x43)) (fun x44 =>
  callQ (.call 169 [x44] false none H nx) (fun x45 H nx =>
  effQ (efBuildSlice P H nx 29 1 (some [(0, x45)])) (fun x46 H nx =>
  callQ (.call 76 [t0, x46] false none H nx) (fun x47 H nx =>
  optK (rdFieldAddr P 44 (some t3) 3) (fun x48 =>
  optK (rdLoad P H 41 (some x48)) (fun x49 =>
  optK (rdIndexAddr P 41 (some x49) (some (.int .i64 1))) (fun x50 =>
  optK (rdLoad P H 44 (some x50)) (fun x51 =>
  callQ (.call 168 [t0, x51] false none H nx) (fun x52 H nx =>
  .ret ⟨.ret (.tuple ⟨[]⟩), false, H, nx⟩) panK) .bad) .bad) .bad) .bad) panK)) panK) .bad) .bad) panK) .bad) .bad) .bad) .bad)
 (.ret ⟨.ret (.tuple ⟨[]⟩), false, H, nx⟩)) .bad) .bad) .bad) .bad) .bad) .bad) panK) .bad) panK) .bad) .bad) panK) .bad)
 (optK (rdBin P H .eql 3 true (some t7) (some (.int .i64 15))) (fun x53 =>
  bvK x53 (fun b54 => bK b54
 (optK (rdLoad P H 44 (some t3)) (fun x55 =>
  callQ (.call 164 [t0, x55, (.int .i64 1), (.bool true), (.bool false), (.bool false), (.bool false)] false none H nx) (fun x56 H nx =>
  optK (rdSlice P H 188 (some (.pointer (some ⟨3, 0, none⟩))) (some none) (some none) (some none)) (fun x57 =>
  optK (rdFieldAddr P 44 (some t3) 2) (fun x58 =>
  optK (rdLoad P H 9 (some x58)) (fun x59 =>
  callQ (.call 153 [x57, x59] false none H nx) (fun x60 H nx =>
  bvK x60 (fun b61 => callQ (.call 127 [t0, (.bool b61)] false none H nx) (fun x62 H nx =>
  optK (rdNil (some t0)) (fun x63 =>
  optK (rdFieldAddr P 116 (some x63) 1) (fun x64 =>
  optK (rdLoad P H 4 (some x64)) (fun x65 =>
  bvK x65 (fun b66 => optK (unV P .not (some (.bool b66))) (fun x67 =>
  bvK x67 (fun b68 => bK b68
 (optK (rdFieldAddr P 44 (some t3) 2) (fun x69 =>
  optK (rdLoad P H 9 (some x69)) (fun x70 =>
  callQ (.call 169 [x70] false none H nx) (fun x71 H nx =>
  effQ (efBuildSlice P H nx 29 1 (some [(0, x71)])) (fun x72 H nx =>
  callQ (.call 76 [t0, x72] false none H nx) (fun x73 H nx =>
  optK (rdFieldAddr P 44 (some t3) 3) (fun x74 =>
  optK (rdLoad P H 41 (some x74)) (fun x75 =>
  optK (rdIndexAddr P 41 (some x75) (some (.int .i64 0))) (fun x76 =>
  optK (rdLoad P H 44 (some x76)) (fun x77 =>
  callQ (.call 168 [t0, x77] false none H nx) (fun x78 H nx =>
  .ret ⟨.ret (.tuple ⟨[]⟩), false, H, nx⟩) panK) .bad) .bad) .bad) .bad) panK)) panK) .bad) .bad)
 (.ret ⟨.ret (.tuple ⟨[]⟩), false, H, nx⟩)) .bad) .bad) .bad) .bad) .bad) .bad) panK) .bad) panK) .bad) .bad) .bad) panK) .bad)
 (optK (rdBin P H .eql 3 true (some t7) (some (.int .i64 6))) (fun x79 =>
  bvK x79 (fun b80 => bK b80
 (optK (rdLoad P H 44 (some t3)) (fun x81 =>
  callQ (.call 164 [t0, x81, (.int .i64 2), (.bool false), (.bool false), (.bool false), (.bool false)] false none H nx) (fun x82 H nx =>
  optK (rdFieldAddr P 44 (some t3) 3) (fun x83 =>
  optK (rdLoad P H 41 (some x83)) (fun x84 =>
  optK (rdLen P #[41] 3 (some [x84])) (fun x85 =>
  .jump (l131_83 t0 x84 x85 (.int .i64 0) H nx)) .bad) .bad) .bad) panK) .bad)
 (optK (rdLoad P H 44 (some t3)) (fun x86 =>
  callQ (.call 170 [t0, x86] false none H nx) (fun x87 H nx =>
  .ret ⟨.ret (.tuple ⟨[]⟩), false, H, nx⟩) panK) .bad)) .bad) .bad)) .bad) .bad)) .bad) .bad)) .bad) .bad) := by kernel_rfl
theorem q131_40 (t0 t3 : Value) (H : T OB) (nx : Nat) : evT P pl (l131_40 t0 t3 H nx) =
 callQ (.call 77 [(.string ⟨⟨[40]⟩⟩)] false none H nx) (fun x0 H nx =>
 effQ (efBuildSlice P H nx 29 1 (some [(0, x0)])) (fun x1 H nx =>
 callQ (.call 76 [t0, x1] false none H nx) (fun x2 H nx =>
 optK (rdFieldAddr P 44 (some t3) 3) (fun x3 =>
 optK (rdLoad P H 41 (some x3)) (fun x4 =>
 effQ (efMakeMap H nx) (fun x5 H nx =>
 effQ (efMapUpdate P H nx 187 (some x5) (some (.int .i64 5)) (some (.string ⟨⟨[44]⟩⟩))) (fun x6 H nx =>
 effQ (efMapUpdate P H nx 187 (some x5) (some (.int .i64 13)) (some (.string ⟨⟨[59]⟩⟩))) (fun x7 H nx =>
 optK (rdFieldAddr P 44 (some t3) 0) (fun x8 =>
 optK (rdLoad P H 3 (some x8)) (fun x9 =>
 optK (rdLookup P H 187 (some x5) (some x9) false) (fun x10 =>
 callQ (.call 165 [t0, x4, x10] false none H nx) (fun x11 H nx =>
 callQ (.call 77 [(.string ⟨⟨[41]⟩⟩)] false none H nx) (fun x12 H nx =>
 effQ (efBuildSlice P H nx 29 1 (some [(0, x12)])) (fun x13 H nx =>
 callQ (.call 76 [t0, x13] false none H nx) (fun x14 H nx =>
 .ret ⟨.ret (.tuple ⟨[]⟩), false, H, nx⟩) panK)) panK) panK) .bad) .bad) .bad)))) .bad) .bad) panK)) panK := by kernel_rfl
theorem q131_83 (t0 t163 t164 t165 : Value) (H : T OB) (nx : Nat) : evT P pl (l131_83 t0 t163 t164 t165 H nx) =
 optK (rdBin P H .lss 3 false (some t165) (some t164)) (fun x0 =>
 bvK x0 (fun b1 => bK b1
 (optK (rdIndexAddr P 41 (some t163) (some t165)) (fun x2 =>
  optK (rdLoad P H 44 (some x2)) (fun x3 =>
  effQ (efAlloc P H nx 44) (fun x4 H nx =>
  frSt P H nx 44 (some x4) x3 (fun H nx =>
  optK (rdLoad P H 44 (some (eptrV x3))) (fun x5 =>
  callQ (.call 168 [t0, x5] false none H nx) (fun x6 H nx =>
  optK (rdBin P H .add 3 true (some t165) (some (.int .i64 1))) (fun x7 =>
  .jump (l131_83 t0 t163 t164 x7 H nx)) .bad) panK) .bad))) .bad) .bad)
 (.ret ⟨.ret (.tuple ⟨[]⟩), false, H, nx⟩)) .bad) .bad := by kernel_rfl
theorem q132 (a0 a1 : Value) (H : T OB) (nx : Nat) : evT P pl (.call 132 [a0, a1] false none H nx) =
 natF (Nat.succ nx) (fun nx =>
 optK (rdLoad P H 31 (some (eptrV a1))) (fun x0 =>
 callQ (.call 33 [x0] false none H nx) (fun x1 H nx =>
 bvK x1 (fun b2 => callQ (.call 127 [a0, (.bool b2)] false none H nx) (fun x3 H nx =>
 optK (rdLoad P H 31 (some (eptrV a1))) (fun x4 =>
 effQ (efBuildSlice P H nx 29 1 (some [(0, x4)])) (fun x5 H nx =>
 callQ (.call 76 [a0, x5] false none H nx) (fun x6 H nx =>
 .ret ⟨.ret (.tuple ⟨[]⟩), false, H, nx⟩) panK)) .bad) panK) .bad) panK) .bad) := by kernel_rfl
def l133_6 (t0 t3 : Value) (t12 : Bool) (H : T OB) (nx : Nat) : Cfg := .at ⟨133, 27, false, [], none, false⟩ (tmOf [(0, t0), (3, t3), (12, .bool t12)]) (todoOf P 133 6) H nx
theorem q133 (a0 a1 : Value) (H : T OB) (nx : Nat) : evT P pl (.call 133 [a0, a1] false none H nx) =
 natF (Nat.succ nx) (fun nx =>
 optK (rdFieldAddr P 47 (some (eptrV a1)) 0) (fun x0 =>
 optK (rdLoad P H 3 (some x0)) (fun x1 =>
 optK (rdBin P H .neq 3 true (some x1) (some (.int .i64 6))) (fun x2 =>
 bvK x2 (fun b3 => bK b3 (.jump (l133_6 a0 (eptrV a1) true H nx)) (optK (rdFieldAddr P 47 (some (eptrV a1)) 3) (fun x4 =>
 optK (rdLoad P H 42 (some x4)) (fun x5 =>
 optK (rdLen P #[42] 3 (some [x5])) (fun x6 =>
 optK (rdBin P H .eql 3 true (some x6) (some (.int .i64 0))) (fun x7 =>
 bvK x7 (fun b8 => .jump (l133_6 a0 (eptrV a1) b8 H nx)) .bad) .bad) .bad) .bad) .bad)) .bad) .bad) .bad) .bad) := by kernel_rfl
theorem q133_6 (t0 t3 : Value) (t12 : Bool) (H : T OB) (nx : Nat) : evT P pl (l133_6 t0 t3 t12 H nx) =
 bK t12
 (optK (rdLoad P H 47 (some t3)) (fun x0 =>
  callQ (.call 130 [t0, x0] false none H nx) (fun x1 H nx =>
  .ret ⟨.ret (.tuple ⟨[]⟩), false, H, nx⟩) panK) .bad)
 (callQ (.call 77 [(.string ⟨⟨[40]⟩⟩)] false none H nx) (fun x2 H nx =>
  effQ (efBuildSlice P H nx 29 1 (some [(0, x2)])) (fun x3 H nx =>
  callQ (.call 76 [t0, x3] false none H nx) (fun x4 H nx =>
  optK (rdLoad P H 47 (some t3)) (fun x5 =>
  callQ (.call 130 [t0, x5] false none H nx) (fun x6 H nx =>
  callQ (.call 77 [(.string ⟨⟨[41]⟩⟩)] false none H nx) (fun x7 H nx =>
  effQ (efBuildSlice P H nx 29 1 (some [(0, x7)])) (fun x8 H nx =>
  callQ (.call 76 [t0, x8] false none H nx) (fun x9 H nx =>
  .ret ⟨.ret (.tuple ⟨[]⟩), false, H, nx⟩) panK)) panK) panK) .bad) panK)) panK) := by kernel_rfl
def l134_10 (t0 t3 : Value) (H : T OB) (nx : Nat) : Cfg := .at ⟨134, 79, false, [], none, false⟩ (tmOf [(0, t0), (3, t3)]) (todoOf P 134 10) H nx
def l134_13 (t0 t3 t21 t22 t23 : Value) (H : T OB) (nx : Nat) : Cfg := .at ⟨134, 79, false, [], none, false⟩ (tmOf [(0, t0), (3, t3), (21, t21), (22, t22), (23, t23)]) (todoOf P 134 13) H nx
def l134_20 (t0 t3 t5 t21 t22 t23 : Value) (H : T OB) (nx : Nat) : Cfg := .at ⟨134, 79, false, [], none, false⟩ (tmOf [(0, t0), (3, t3), (5, t5), (21, t21), (22, t22), (23, t23)]) (todoOf P 134 20) H nx
def l134_28 (t0 t3 : Value) (H : T OB) (nx : Nat) : Cfg := .at ⟨134, 79, false, [], none, false⟩ (tmOf [(0, t0), (3, t3)]) (todoOf P 134 28) H nx
def l134_35 (t0 t59 t60 t61 : Value) (H : T OB) (nx : Nat) : Cfg := .at ⟨134, 79, false, [], none, false⟩ (tmOf [(0, t0), (59, t59), (60, t60), (61, t61)]) (todoOf P 134 35) H nx
theorem q134 (a0 a1 : Value) (H : T OB) (nx : Nat) : evT P pl (.call 134 [a0, a1] false none H nx) =
 natF (Nat.succ nx) (fun nx =>
 callQ (.call 129 [(.string ⟨⟨[100, 97, 116, 97, 116, 121, 112, 101]⟩⟩)] false none H nx) (fun x0 H nx =>
 effQ (efBuildSlice P H nx 29 1 (some [(0, x0)])) (fun x1 H nx =>
 callQ (.call 76 [a0, x1] false none H nx) (fun x2 H nx =>
 optK (rdFieldAddr P 52 (some (eptrV a1)) 0) (fun x3 =>
 optK (rdLoad P H 49 (some x3)) (fun x4 =>
 optK (rdLen P #[49] 3 (some [x4])) (fun x5 =>
 optK (rdBin P H .gtr 3 true (some x5) (some (.int .i64 1))) (fun x6 =>
 bvK x6 (fun b7 => bK b7
 (callQ (.call 77 [(.string ⟨⟨[40]⟩⟩)] false none H nx) (fun x8 H nx =>
  effQ (efBuildSlice P H nx 29 1 (some [(0, x8)])) (fun x9 H nx =>
  callQ (.call 76 [a0, x9] false none H nx) (fun x10 H nx =>
  .jump (l134_10 a0 (eptrV a1) H nx)) panK)) panK)
 (.jump (l134_10 a0 (eptrV a1) H nx))) .bad) .bad) .bad) .bad) .bad) panK)) panK) := by kernel_rfl
theorem q134_10 (t0 t3 : Value) (H : T OB) (nx : Nat) : evT P pl (l134_10 t0 t3 H nx) =
 optK (rdFieldAddr P 52 (some t3) 0) (fun x0 =>
 optK (rdLoad P H 49 (some x0)) (fun x1 =>
 optK (rdLen P #[49] 3 (some [x1])) (fun x2 =>
 .jump (l134_13 t0 t3 x1 x2 (.int .i64 0) H nx)) .bad) .bad) .bad := by kernel_rfl
theorem q134_13 (t0 t3 t21 t22 t23 : Value) (H : T OB) (nx : Nat) : evT P pl (l134_13 t0 t3 t21 t22 t23 H nx) =
 optK (rdBin P H .lss 3 false (some t23) (some t22)) (fun x0 =>
 bvK x0 (fun b1 => bK b1
 (optK (rdIndexAddr P 49 (some t21) (some t23)) (fun x2 =>
  optK (rdLoad P H 9 (some x2)) (fun x3 =>
  optK (rdBin P H .gtr 3 true (some t23) (some (.int .i64 0))) (fun x4 =>
  bvK x4 (fun b5 => bK b5
 (callQ (.call 77 [(.string ⟨⟨[44]⟩⟩)] false none H nx) (fun x6 H nx =>
  effQ (efBuildSlice P H nx 29 1 (some [(0, x6)])) (fun x7 H nx =>
  callQ (.call 76 [t0, x7] false none H nx) (fun x8 H nx =>
  .jump (l134_20 t0 t3 x3 t21 t22 t23 H nx)) panK)) panK)
 (.jump (l134_20 t0 t3 x3 t21 t22 t23 H nx))) .bad) .bad) .bad) .bad)
 (optK (rdFieldAddr P 52 (some t3) 0) (fun x9 =>
  optK (rdLoad P H 49 (some x9)) (fun x10 =>
  optK (rdLen P #[49] 3 (some [x10])) (fun x11 =>
  optK (rdBin P H .gtr 3 true (some x11) (some (.int .i64 1))) (fun x12 =>
  bvK x12 (fun b13 => bK b13
 (callQ (.call 77 [(.string ⟨⟨[41]⟩⟩)] false none H nx) (fun x14 H nx =>
  effQ (efBuildSlice P H nx 29 1 (some [(0, x14)])) (fun x15 H nx =>
  callQ (.call 76 [t0, x15] false none H nx) (fun x16 H nx =>
  .jump (l134_28 t0 t3 H nx)) panK)) panK)
 (.jump (l134_28 t0 t3 H nx))) .bad) .bad) .bad) .bad) .bad)) .bad) .bad := by kernel_rfl
theorem q134_20 (t0 t3 t5 t21 t22 t23 : Value) (H : T OB) (nx : Nat) : evT P pl (l134_20 t0 t3 t5 t21 t22 t23 H nx) =
 optK (rdBuild P 31 (some [(0, (.int .i64 5)), (1, t5)])) (fun x0 =>
 callQ (.call 132 [t0, x0] false none H nx) (fun x1 H nx =>
 optK (rdBin P H .add 3 true (some t23) (some (.int .i64 1))) (fun x2 =>
 .jump (l134_13 t0 t3 t21 t22 x2 H nx)) .bad) panK) .bad := by kernel_rfl
theorem q134_28 (t0 t3 : Value) (H : T OB) (nx : Nat) : evT P pl (l134_28 t0 t3 H nx) =
 optK (rdFieldAddr P 52 (some t3) 1) (fun x0 =>
 optK (rdLoad P H 9 (some x0)) (fun x1 =>
 optK (rdBuild P 31 (some [(0, (.int .i64 3)), (1, x1)])) (fun x2 =>
 callQ (.call 132 [t0, x2] false none H nx) (fun x3 H nx =>
 optK (rdFieldAddr P 52 (some t3) 2) (fun x4 =>
 optK (rdLoad P H 50 (some x4)) (fun x5 =>
 optK (rdLen P #[50] 3 (some [x5])) (fun x6 =>
 optK (rdBin P H .gtr 3 true (some x6) (some (.int .i64 0))) (fun x7 =>
 bvK x7 (fun b8 => callQ (.call 127 [t0, (.bool b8)] false none H nx) (fun x9 H nx =>
 optK (rdFieldAddr P 52 (some t3) 2) (fun x10 =>
 optK (rdLoad P H 50 (some x10)) (fun x11 =>
 optK (rdLen P #[50] 3 (some [x11])) (fun x12 =>
 .jump (l134_35 t0 x11 x12 (.int .i64 0) H nx)) .bad) .bad) .bad) panK) .bad) .bad) .bad) .bad) .bad) panK) .bad) .bad) .bad := by kernel_rfl
theorem q134_35 (t0 t59 t60 t61 : Value) (H : T OB) (nx : Nat) : evT P pl (l134_35 t0 t59 t60 t61 H nx) =
 optK (rdBin P H .lss 3 false (some t61) (some t60)) (fun x0 =>
 bvK x0 (fun b1 => bK b1
 (optK (rdIndexAddr P 50 (some t59) (some t61)) (fun x2 =>
  optK (rdLoad P H 55 (some x2)) (fun x3 =>
  effQ (efAlloc P H nx 55) (fun x4 H nx =>
  frSt P H nx 55 (some x4) x3 (fun H nx =>
  effQ (efMakeMap H nx) (fun x5 H nx =>
  effQ (efMapUpdate P H nx 163 (some x5) (some (.bool true)) (some (.string ⟨⟨[61]⟩⟩))) (fun x6 H nx =>
  effQ (efMapUpdate P H nx 163 (some x5) (some (.bool false)) (some (.string ⟨⟨[124]⟩⟩))) (fun x7 H nx =>
  optK (rdBin P H .eql 3 true (some t61) (some (.int .i64 0))) (fun x8 =>
  bvK x8 (fun b9 => optK (rdLookup P H 163 (some x5) (some (.bool b9)) false) (fun x10 =>
  callQ (.call 77 [x10] false none H nx) (fun x11 H nx =>
  effQ (efBuildSlice P H nx 29 1 (some [(0, x11)])) (fun x12 H nx =>
  callQ (.call 76 [t0, x12] false none H nx) (fun x13 H nx =>
  optK (rdLoad P H 55 (some (eptrV x3))) (fun x14 =>
  callQ (.call 135 [t0, x14] false none H nx) (fun x15 H nx =>
  optK (rdBin P H .add 3 true (some t61) (some (.int .i64 1))) (fun x16 =>
  .jump (l134_35 t0 t59 t60 x16 H nx)) .bad) panK) .bad) panK)) panK) .bad) .bad) .bad)))))) .bad) .bad)
 (.ret ⟨.ret (.tuple ⟨[]⟩), false, H, nx⟩)) .bad) .bad := by kernel_rfl
def l135_11 (t0 t18 t19 t20 : Value) (H : T OB) (nx : Nat) : Cfg := .at ⟨135, 32, false, [], none, false⟩ (tmOf [(0, t0), (18, t18), (19, t19), (20, t20)]) (todoOf P 135 11) H nx
theorem q135 (a0 a1 : Value) (H : T OB) (nx : Nat) : evT P pl (.call 135 [a0, a1] false none H nx) =
 natF (Nat.succ nx) (fun nx =>
 optK (rdFieldAddr P 55 (some (eptrV a1)) 0) (fun x0 =>
 optK (rdLoad P H 9 (some x0)) (fun x1 =>
 optK (rdBuild P 31 (some [(0, (.int .i64 4)), (1, x1)])) (fun x2 =>
 callQ (.call 132 [a0, x2] false none H nx) (fun x3 H nx =>
 optK (rdFieldAddr P 55 (some (eptrV a1)) 1) (fun x4 =>
 optK (rdLoad P H 53 (some x4)) (fun x5 =>
 optK (rdLen P #[53] 3 (some [x5])) (fun x6 =>
 optK (rdBin P H .leq 3 true (some x6) (some (.int .i64 1))) (fun x7 =>
 bvK x7 (fun b8 => callQ (.call 127 [a0, (.bool b8)] false none H nx) (fun x9 H nx =>
 optK (rdFieldAddr P 55 (some (eptrV a1)) 1) (fun x10 =>
 optK (rdLoad P H 53 (some x10)) (fun x11 =>
 optK (rdLen P #[53] 3 (some [x11])) (fun x12 =>
 .jump (l135_11 a0 x11 x12 (.int .i64 0) H nx)) .bad) .bad) .bad) panK) .bad) .bad) .bad) .bad) .bad) panK) .bad) .bad) .bad) := by kernel_rfl
theorem q135_11 (t0 t18 t19 t20 : Value) (H : T OB) (nx : Nat) : evT P pl (l135_11 t0 t18 t19 t20 H nx) =
 optK (rdBin P H .lss 3 false (some t20) (some t19)) (fun x0 =>
 bvK x0 (fun b1 => bK b1
 (optK (rdIndexAddr P 53 (some t18) (some t20)) (fun x2 =>
  optK (rdLoad P H 138 (some x2)) (fun x3 =>
  effQ (efAlloc P H nx 138) (fun x4 H nx =>
  frSt P H nx 138 (some x4) x3 (fun H nx =>
  callQ (.call 129 [(.string ⟨⟨[111, 102]⟩⟩)] false none H nx) (fun x5 H nx =>
  effQ (efBuildSlice P H nx 29 1 (some [(0, x5)])) (fun x6 H nx =>
  callQ (.call 76 [t0, x6] false none H nx) (fun x7 H nx =>
  optK (rdLoad P H 138 (some (eptrV x3))) (fun x8 =>
  callQ (.call 171 [t0, x8] false none H nx) (fun x9 H nx =>
  optK (rdBin P H .add 3 true (some t20) (some (.int .i64 1))) (fun x10 =>
  .jump (l135_11 t0 t18 t19 x10 H nx)) .bad) panK) .bad) panK)) panK))) .bad) .bad)
 (.ret ⟨.ret (.tuple ⟨[]⟩), false, H, nx⟩)) .bad) .bad := by kernel_rfl
theorem q136 (a0 : Value) (H : T OB) (nx : Nat) : evT P pl (.call 136 [a0] false none H nx) =
 optK (rdBuild P 31 (some [(0, (.int .i64 1)), (2, a0)])) (fun x0 =>
 callQ (.call 64 [x0] false none H nx) (fun x1 H nx =>
 .ret ⟨.ret x1, false, H, nx⟩) panK) .bad := by kernel_rfl
def l137_6 (t1 : Value) (t11 : Bool) (H : T OB) (nx : Nat) : Cfg := .at ⟨137, 17, false, [], none, false⟩ (tmOf [(1, t1), (11, .bool t11)]) (todoOf P 137 6) H nx
theorem q137 (a0 : Value) (H : T OB) (nx : Nat) : evT P pl (.call 137 [a0] false none H nx) =
 natF (Nat.succ nx) (fun nx =>
 optK (rdFieldAddr P 47 (some (eptrV a0)) 0) (fun x0 =>
 optK (rdLoad P H 3 (some x0)) (fun x1 =>
 optK (rdBin P H .eql 3 true (some x1) (some (.int .i64 6))) (fun x2 =>
 bvK x2 (fun b3 => bK b3 (optK (rdFieldAddr P 47 (some (eptrV a0)) 3) (fun x4 =>
 optK (rdLoad P H 42 (some x4)) (fun x5 =>
 optK (rdLen P #[42] 3 (some [x5])) (fun x6 =>
 optK (rdBin P H .gtr 3 true (some x6) (some (.int .i64 0))) (fun x7 =>
 bvK x7 (fun b8 => .jump (l137_6 (eptrV a0) b8 H nx)) .bad) .bad) .bad) .bad) .bad) (.jump (l137_6 (eptrV a0) false H nx))) .bad) .bad) .bad) .bad) := by kernel_rfl
theorem q137_6 (t1 : Value) (t11 : Bool) (H : T OB) (nx : Nat) : evT P pl (l137_6 t1 t11 H nx) =
 bK t11
 (optK (rdLoad P H 47 (some t1)) (fun x0 =>
  callQ (.call 80 [x0] false none H nx) (fun x1 H nx =>
  callQ (.call 85 [x1] false none H nx) (fun x2 H nx =>
  .ret ⟨.ret x2, false, H, nx⟩) panK) panK) .bad)
 (optK (rdLoad P H 47 (some t1)) (fun x3 =>
  callQ (.call 80 [x3] false none H nx) (fun x4 H nx =>
  .ret ⟨.ret x4, false, H, nx⟩) panK) .bad) := by kernel_rfl
def l138_9 (t0 t3 t4 : Value) (H : T OB) (nx : Nat) : Cfg := .at ⟨138, 20, false, [], none, false⟩ (tmOf [(0, t0), (3, t3), (4, t4)]) (todoOf P 138 9) H nx
theorem q138 (a0 : Value) (H : T OB) (nx : Nat) : evT P pl (.call 138 [a0] false none H nx) =
 .jump (l138_9 a0 (.slice none 0 0) (.int .i64 0) H nx) := by kernel_rfl
theorem q138_9 (t0 t3 t4 : Value) (H : T OB) (nx : Nat) : evT P pl (l138_9 t0 t3 t4 H nx) =
 optK (rdLen P #[41] 3 (some [t0])) (fun x0 =>
 optK (rdBin P H .lss 3 false (some t4) (some x0)) (fun x1 =>
 bvK x1 (fun b2 => bK b2
 (optK (rdIndexAddr P 41 (some t0) (some t4)) (fun x3 =>
  optK (rdLoad P H 44 (some x3)) (fun x4 =>
  callQ (.call 172 [x4] false none H nx) (fun x5 H nx =>
  effQ (efBuildSlice P H nx 49 1 (some [(0, x5)])) (fun x6 H nx =>
  effQ (efAppS P H nx [49, 49] (some [t3, x6])) (fun x7 H nx =>
  optK (rdBin P H .add 3 true (some t4) (some (.int .i64 1))) (fun x8 =>
  .jump (l138_9 t0 x7 x8 H nx)) .bad))) panK) .bad) .bad)
 (frzV P 49 t3 H nx (fun x9 H nx =>
  .ret ⟨.ret x9, false, H, nx⟩))) .bad) .bad) .bad := by kernel_rfl
def l139_9 (t0 t1 t5 t6 : Value) (H : T OB) (nx : Nat) : Cfg := .at ⟨139, 30, false, [], none, false⟩ (tmOf [(0, t0), (1, t1), (5, t5), (6, t6)]) (todoOf P 139 9) H nx
theorem q139 (a0 a1 : Value) (H : T OB) (nx : Nat) : evT P pl (.call 139 [a0, a1] false none H nx) =
 .jump (l139_9 a0 a1 (.slice none 0 0) (.int .i64 0) H nx) := by kernel_rfl
theorem q139_9 (t0 t1 t5 t6 : Value) (H : T OB) (nx : Nat) : evT P pl (l139_9 t0 t1 t5 t6 H nx) =
 optK (rdLen P #[41] 3 (some [t1])) (fun x0 =>
 optK (rdBin P H .lss 3 false (some t6) (some x0)) (fun x1 =>
 bvK x1 (fun b2 => bK b2
 (optK (rdIndexAddr P 42 (some t0) (some t6)) (fun x3 =>
  optK (rdLoad P H 47 (some x3)) (fun x4 =>
  optK (rdIndexAddr P 41 (some t1) (some t6)) (fun x5 =>
  optK (rdLoad P H 44 (some x5)) (fun x6 =>
  callQ (.call 137 [x4] false none H nx) (fun x7 H nx =>
  bK (optK (rdLoad P H 44 (some x5)) (fun u => vEq u x6) false && true) (optK (rdBin P H .add 9 true (some x7) (some (.string ⟨⟨[32, 61, 62, 32]⟩⟩))) (fun x8 =>
  callQ (.call 172 [x6] false none H nx) (fun x9 H nx =>
  bK (optK (rdBin P H .add 9 true (some x7) (some (.string ⟨⟨[32, 61, 62, 32]⟩⟩))) (fun u => vEq u x8) false && true) (optK (rdBin P H .add 9 false (some x8) (some x9)) (fun x10 =>
  effQ (efBuildSlice P H nx 49 1 (some [(0, x10)])) (fun x11 H nx =>
  effQ (efAppS P H nx [49, 49] (some [t5, x11])) (fun x12 H nx =>
  optK (rdBin P H .add 3 true (some t6) (some (.int .i64 1))) (fun x13 =>
  .jump (l139_9 t0 t1 x12 x13 H nx)) .bad))) .bad) .bad) panK) .bad) .bad) panK) .bad) .bad) .bad) .bad)
 (callQ (.call 83 [t5, (.string ⟨⟨[124]⟩⟩)] false none H nx) (fun x14 H nx =>
  .ret ⟨.ret x14, false, H, nx⟩) panK)) .bad) .bad) .bad := by kernel_rfl
end
end Go.Proofs.YthjhonhhbddhkaaGreatDoor
