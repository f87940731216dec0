/- What functions of the program say, as trees. -/
import Derived.Test.YtfdgoenmdalphaaGreatDoorRa0
import Derived.KernelRfl
namespace Go.Proofs.YtfdgoenmdalphaaGreatDoor
open Go.Ev Go.RowKit
noncomputable section
set_option linter.unusedVariables false
set_option maxHeartbeats 8000000
/-! kindling/core.text -/
noncomputable def l139_52 (t2 : Value) (t3 : Value) (H : T OB) (nx : Nat) : Cfg := .at ⟨139, 116, false, [], none, false⟩ (tmOf [(2, t2), (3, t3)]) (todoOf P 139 52) H nx
noncomputable def l139_18 (t2 : Value) (t3 : Value) (t5_0 : Value) (t5_1 : Value) (t20 : Value) (t21 : Bool) (H : T OB) (nx : Nat) : Cfg := .at ⟨139, 116, false, [], none, false⟩ (tmOf [(2, t2), (3, t3), (5, (.func (.func 146) #[] ⟨[t5_0, t5_1]⟩)), (20, t20), (21, .bool t21)]) (todoOf P 139 18) H nx
noncomputable def l139_55 (t2 : Value) (t3 : Value) (t68 : Value) (t69 : Value) (t70 : Value) (H : T OB) (nx : Nat) : Cfg := .at ⟨139, 116, false, [], none, false⟩ (tmOf [(2, t2), (3, t3), (68, t68), (69, t69), (70, t70)]) (todoOf P 139 55) H nx
noncomputable def l139_60 (t2 : Value) (t3 : Value) (t6 : Value) (t7 : Value) (t68 : Value) (t69 : Value) (t70 : Value) (t85 : Bool) (H : T OB) (nx : Nat) : Cfg := .at ⟨139, 116, false, [], none, false⟩ (tmOf [(2, t2), (3, t3), (6, t6), (7, t7), (68, t68), (69, t69), (70, t70), (85, .bool t85)]) (todoOf P 139 60) H nx
theorem q139 (a0 : Value) (a1 : Value) (H : T OB) (nx : Nat) : evT P pl (.call 139 [a0, a1] false none H nx) =
  effQ (efBox H nx 100 (some a0)) (fun x0 H nx =>
  effQ (efBox H nx 25 (some a1)) (fun x1 H nx =>
  optK (rdFieldAddr P 25 (some x1) 0) (fun x2 =>
  optK (rdLoad P H 3 (some x2)) (fun x3 =>
  optK (rdBin P H .eql 3 true (some x3) (some (.int .i64 1))) (fun x4 =>
  bvK x4 (fun b5 => bK b5
 (optK (rdLoad P H 100 (some x0)) (fun x6 =>
  optK (rdFieldAddr P 25 (some x1) 2) (fun x7 =>
  optK (rdLoad P H 2 (some x7)) (fun x8 =>
  callQ (.call 82 [x8] false none H nx) (fun x9 H nx =>
  bK (optK (rdLoad P H 100 (some x0)) (fun u => vEq u x6) false && true) (effQ (efAppS P H nx [100, 9] (some [x6, x9])) (fun x10 H nx =>
  .ret ⟨.ret x10, false, H, nx⟩)) .bad) panK) .bad) .bad) .bad)
 (optK (rdBin P H .eql 3 true (some x3) (some (.int .i64 2))) (fun x11 =>
  bvK x11 (fun b12 => bK b12
 (optK (rdLoad P H 100 (some x0)) (fun x13 =>
  optK (rdFieldAddr P 25 (some x1) 3) (fun x14 =>
  optK (rdLoad P H 9 (some x14)) (fun x15 =>
  callQ (.call 147 [x13, x15] false none H nx) (fun x16 H nx =>
  .ret ⟨.ret x16, false, H, nx⟩) panK) .bad) .bad) .bad)
 (optK (rdBin P H .eql 3 true (some x3) (some (.int .i64 3))) (fun x17 =>
  bvK x17 (fun b18 => bK b18
 (callQ (.call 146 [(.string ⟨⟨[37]⟩⟩), x0, x1] false none H nx) (fun x19 H nx =>
  optK (rdLoad P H 100 (some x0)) (fun x20 =>
  .ret ⟨.ret x20, false, H, nx⟩) .bad) panK)
 (optK (rdBin P H .eql 3 true (some x3) (some (.int .i64 4))) (fun x21 =>
  bvK x21 (fun b22 => bK b22
 (callQ (.call 146 [(.string ⟨⟨[36]⟩⟩), x0, x1] false none H nx) (fun x23 H nx =>
  optK (rdLoad P H 100 (some x0)) (fun x24 =>
  .ret ⟨.ret x24, false, H, nx⟩) .bad) panK)
 (optK (rdBin P H .eql 3 true (some x3) (some (.int .i64 12))) (fun x25 =>
  bvK x25 (fun b26 => bK b26
 (optK (rdLoad P H 100 (some x0)) (fun x27 =>
  optK (rdFieldAddr P 25 (some x1) 1) (fun x28 =>
  optK (rdLoad P H 3 (some x28)) (fun x29 =>
  effQ (efBuildSlice P H nx 100 1 (some [(0, (.int .u8 40))])) (fun x30 H nx =>
  bK (optK (rdLoad P H 3 (some x28)) (fun u => vEq u x29) false && (optK (rdLoad P H 100 (some x0)) (fun u => vEq u x27) false && true)) (effQ (efAppS P H nx [100, 100] (some [x27, x30])) (fun x31 H nx =>
  bK (optK (rdLoad P H 3 (some x28)) (fun u => vEq u x29) false && true) (callQ (.call 112 [x29] false none H nx) (fun x32 H nx =>
  effQ (efAppS P H nx [100, 9] (some [x31, x32])) (fun x33 H nx =>
  effQ (efStore P H nx 100 (some x0) (some x33)) (fun x34 H nx =>
  .jump (l139_52 x0 x1 H nx)))) panK) .bad)) .bad)) .bad) .bad) .bad)
 (optK (rdLoad P H 100 (some x0)) (fun x35 =>
  optK (rdFieldAddr P 25 (some x1) 0) (fun x36 =>
  optK (rdLoad P H 3 (some x36)) (fun x37 =>
  optK (rdIndexAddr P 218 (some (.pointer (some ⟨0, 0, none⟩))) (some x37)) (fun x38 =>
  optK (rdLoad P H 9 (some x38)) (fun x39 =>
  effQ (efBuildSlice P H nx 100 1 (some [(0, (.int .u8 40))])) (fun x40 H nx =>
  bK (optK (rdLoad P H 9 (some x38)) (fun u => vEq u x39) false && (optK (rdLoad P H 3 (some x36)) (fun u => vEq u x37) false && (optK (rdLoad P H 100 (some x0)) (fun u => vEq u x35) false && true))) (effQ (efAppS P H nx [100, 100] (some [x35, x40])) (fun x41 H nx =>
  bK (optK (rdLoad P H 9 (some x38)) (fun u => vEq u x39) false && (optK (rdLoad P H 3 (some x36)) (fun u => vEq u x37) false && true)) (effQ (efAppS P H nx [100, 9] (some [x41, x39])) (fun x42 H nx =>
  effQ (efStore P H nx 100 (some x0) (some x42)) (fun x43 H nx =>
  optK (rdFieldAddr P 25 (some x1) 0) (fun x44 =>
  optK (rdLoad P H 3 (some x44)) (fun x45 =>
  optK (rdBin P H .eql 3 true (some x45) (some (.int .i64 6))) (fun x46 =>
  bvK x46 (fun b47 => bK b47
 (.jump (l139_18 x0 x1 x0 x1 x45 b47 H nx))
 (optK (rdBin P H .eql 3 true (some x45) (some (.int .i64 10))) (fun x48 =>
  bvK x48 (fun b49 => bK b49
 (.jump (l139_18 x0 x1 x0 x1 x45 b49 H nx))
 (optK (rdBin P H .eql 3 true (some x45) (some (.int .i64 14))) (fun x50 =>
  bvK x50 (fun b51 => .jump (l139_18 x0 x1 x0 x1 x45 b51 H nx)) .bad) .bad)) .bad) .bad)) .bad) .bad) .bad) .bad))) .bad)) .bad)) .bad) .bad) .bad) .bad) .bad)) .bad) .bad)) .bad) .bad)) .bad) .bad)) .bad) .bad)) .bad) .bad) .bad) .bad)) := by kernel_rfl
theorem q139_52 (t2 : Value) (t3 : Value) (H : T OB) (nx : Nat) : evT P pl (l139_52 t2 t3 H nx) =
  optK (rdFieldAddr P 25 (some t3) 5) (fun x0 =>
  optK (rdLoad P H 23 (some x0)) (fun x1 =>
  optK (rdLen P #[23] 3 (some [x1])) (fun x2 =>
  .jump (l139_55 t2 t3 x1 x2 (.int .i64 0) H nx)) .bad) .bad) .bad := by kernel_rfl
theorem q139_18 (t2 : Value) (t3 : Value) (t5_0 : Value) (t5_1 : Value) (t20 : Value) (t21 : Bool) (H : T OB) (nx : Nat) : evT P pl (l139_18 t2 t3 t5_0 t5_1 t20 t21 H nx) =
  bK t21
 (callQ (.call 146 [(.string ⟨⟨[32, 37]⟩⟩), t5_0, t5_1] false none H nx) (fun x0 H nx =>
  optK (rdFieldAddr P 25 (some t3) 5) (fun x1 =>
  optK (rdLoad P H 23 (some x1)) (fun x2 =>
  optK (rdLen P #[23] 3 (some [x2])) (fun x3 =>
  .jump (l139_55 t2 t3 x2 x3 (.int .i64 0) H nx)) .bad) .bad) .bad) panK)
 (optK (rdBin P H .eql 3 true (some t20) (some (.int .i64 11))) (fun x4 =>
  bvK x4 (fun b5 => bK b5
 (callQ (.call 146 [(.string ⟨⟨[32]⟩⟩), t5_0, t5_1] false none H nx) (fun x6 H nx =>
  optK (rdFieldAddr P 25 (some t3) 5) (fun x7 =>
  optK (rdLoad P H 23 (some x7)) (fun x8 =>
  optK (rdLen P #[23] 3 (some [x8])) (fun x9 =>
  .jump (l139_55 t2 t3 x8 x9 (.int .i64 0) H nx)) .bad) .bad) .bad) panK)
 (optK (rdBin P H .eql 3 true (some t20) (some (.int .i64 15))) (fun x10 =>
  bvK x10 (fun b11 => bK b11
 (callQ (.call 146 [(.string ⟨⟨[32, 36]⟩⟩), t5_0, t5_1] false none H nx) (fun x12 H nx =>
  optK (rdFieldAddr P 25 (some t3) 5) (fun x13 =>
  optK (rdLoad P H 23 (some x13)) (fun x14 =>
  optK (rdLen P #[23] 3 (some [x14])) (fun x15 =>
  .jump (l139_55 t2 t3 x14 x15 (.int .i64 0) H nx)) .bad) .bad) .bad) panK)
 (optK (rdFieldAddr P 25 (some t3) 5) (fun x16 =>
  optK (rdLoad P H 23 (some x16)) (fun x17 =>
  optK (rdLen P #[23] 3 (some [x17])) (fun x18 =>
  .jump (l139_55 t2 t3 x17 x18 (.int .i64 0) H nx)) .bad) .bad) .bad)) .bad) .bad)) .bad) .bad) := by kernel_rfl
theorem q139_55 (t2 : Value) (t3 : Value) (t68 : Value) (t69 : Value) (t70 : Value) (H : T OB) (nx : Nat) : evT P pl (l139_55 t2 t3 t68 t69 t70 H nx) =
  optK (rdBin P H .lss 3 false (some t70) (some t69)) (fun x0 =>
  bvK x0 (fun b1 => bK b1
 (optK (rdIndexAddr P 23 (some t68) (some t70)) (fun x2 =>
  optK (rdLoad P H 25 (some x2)) (fun x3 =>
  effQ (efAlloc P H nx 25) (fun x4 H nx =>
  frSt P H nx 25 (some x4) x3 (fun H nx =>
  optK (rdFieldAddr P 25 (some t3) 0) (fun x5 =>
  optK (rdLoad P H 3 (some x5)) (fun x6 =>
  optK (rdBin P H .eql 3 true (some x6) (some (.int .i64 7))) (fun x7 =>
  bvK x7 (fun b8 => bK b8 (optK (rdBin P H .mul 3 true (some (.int .i64 2)) (some t70)) (fun x9 =>
  optK (rdFieldAddr P 25 (some t3) 4) (fun x10 =>
  optK (rdLoad P H 22 (some x10)) (fun x11 =>
  optK (rdLen P #[22] 3 (some [x11])) (fun x12 =>
  optK (rdBin P H .lss 3 false (some x9) (some x12)) (fun x13 =>
  bvK x13 (fun b14 => .jump (l139_60 t2 t3 t70 (eptrV x3) t68 t69 t70 b14 H nx)) .bad) .bad) .bad) .bad) .bad) .bad) (.jump (l139_60 t2 t3 t70 (eptrV x3) t68 t69 t70 false H nx))) .bad) .bad) .bad) .bad))) .bad) .bad)
 (optK (rdLoad P H 100 (some t2)) (fun x15 =>
  effQ (efBuildSlice P H nx 100 1 (some [(0, (.int .u8 41))])) (fun x16 H nx =>
  effQ (efAppS P H nx [100, 100] (some [x15, x16])) (fun x17 H nx =>
  .ret ⟨.ret x17, false, H, nx⟩))) .bad)) .bad) .bad := by kernel_rfl
theorem q139_60 (t2 : Value) (t3 : Value) (t6 : Value) (t7 : Value) (t68 : Value) (t69 : Value) (t70 : Value) (t85 : Bool) (H : T OB) (nx : Nat) : evT P pl (l139_60 t2 t3 t6 t7 t68 t69 t70 t85 H nx) =
  bK t85
 (optK (rdLoad P H 100 (some t2)) (fun x0 =>
  optK (rdFieldAddr P 25 (some t3) 4) (fun x1 =>
  optK (rdLoad P H 22 (some x1)) (fun x2 =>
  optK (rdBin P H .mul 3 true (some (.int .i64 2)) (some t6)) (fun x3 =>
  optK (rdIndexAddr P 22 (some x2) (some x3)) (fun x4 =>
  optK (rdLoad P H 3 (some x4)) (fun x5 =>
  effQ (efAppS P H nx [100, 9] (some [x0, (.string ⟨⟨[32, 37]⟩⟩)])) (fun x6 H nx =>
  bK (optK (rdLoad P H 3 (some x4)) (fun u => vEq u x5) false && (optK (rdBin P H .mul 3 true (some (.int .i64 2)) (some t6)) (fun u => vEq u x3) false && (optK (rdLoad P H 22 (some x1)) (fun u => vEq u x2) false && true))) (callQ (.call 82 [x5] false none H nx) (fun x7 H nx =>
  effQ (efAppS P H nx [100, 9] (some [x6, x7])) (fun x8 H nx =>
  effQ (efStore P H nx 100 (some t2) (some x8)) (fun x9 H nx =>
  optK (rdLoad P H 100 (some t2)) (fun x10 =>
  optK (rdFieldAddr P 25 (some t3) 4) (fun x11 =>
  optK (rdLoad P H 22 (some x11)) (fun x12 =>
  optK (rdBin P H .mul 3 true (some (.int .i64 2)) (some t6)) (fun x13 =>
  optK (rdBin P H .add 3 true (some x13) (some (.int .i64 1))) (fun x14 =>
  optK (rdIndexAddr P 22 (some x12) (some x14)) (fun x15 =>
  optK (rdLoad P H 3 (some x15)) (fun x16 =>
  effQ (efAppS P H nx [100, 9] (some [x10, (.string ⟨⟨[32, 37]⟩⟩)])) (fun x17 H nx =>
  bK (optK (rdLoad P H 3 (some x15)) (fun u => vEq u x16) false && (optK (rdBin P H .add 3 true (some x13) (some (.int .i64 1))) (fun u => vEq u x14) false && (optK (rdBin P H .mul 3 true (some (.int .i64 2)) (some t6)) (fun u => vEq u x13) false && (optK (rdLoad P H 22 (some x11)) (fun u => vEq u x12) false && true)))) (callQ (.call 82 [x16] false none H nx) (fun x18 H nx =>
  effQ (efAppS P H nx [100, 9] (some [x17, x18])) (fun x19 H nx =>
  effQ (efStore P H nx 100 (some t2) (some x19)) (fun x20 H nx =>
  optK (rdLoad P H 100 (some t2)) (fun x21 =>
  optK (rdLoad P H 25 (some t7)) (fun x22 =>
  effQ (efBuildSlice P H nx 100 1 (some [(0, (.int .u8 32))])) (fun x23 H nx =>
  bK (optK (rdLoad P H 25 (some t7)) (fun u => vEq u x22) false && (optK (rdLoad P H 100 (some t2)) (fun u => vEq u x21) false && true)) (effQ (efAppS P H nx [100, 100] (some [x21, x23])) (fun x24 H nx =>
  bK (optK (rdLoad P H 25 (some t7)) (fun u => vEq u x22) false && true) (callQ (.call 139 [x24, x22] false none H nx) (fun x25 H nx =>
  effQ (efStore P H nx 100 (some t2) (some x25)) (fun x26 H nx =>
  optK (rdBin P H .add 3 true (some t70) (some (.int .i64 1))) (fun x27 =>
  .jump (l139_55 t2 t3 t68 t69 x27 H nx)) .bad)) panK) .bad)) .bad)) .bad) .bad))) panK) .bad)) .bad) .bad) .bad) .bad) .bad) .bad) .bad))) panK) .bad)) .bad) .bad) .bad) .bad) .bad) .bad)
 (optK (rdLoad P H 100 (some t2)) (fun x28 =>
  optK (rdLoad P H 25 (some t7)) (fun x29 =>
  effQ (efBuildSlice P H nx 100 1 (some [(0, (.int .u8 32))])) (fun x30 H nx =>
  bK (optK (rdLoad P H 25 (some t7)) (fun u => vEq u x29) false && (optK (rdLoad P H 100 (some t2)) (fun u => vEq u x28) false && true)) (effQ (efAppS P H nx [100, 100] (some [x28, x30])) (fun x31 H nx =>
  bK (optK (rdLoad P H 25 (some t7)) (fun u => vEq u x29) false && true) (callQ (.call 139 [x31, x29] false none H nx) (fun x32 H nx =>
  effQ (efStore P H nx 100 (some t2) (some x32)) (fun x33 H nx =>
  optK (rdBin P H .add 3 true (some t70) (some (.int .i64 1))) (fun x34 =>
  .jump (l139_55 t2 t3 t68 t69 x34 H nx)) .bad)) panK) .bad)) .bad)) .bad) .bad) := by kernel_rfl
/-! kindling/kindlingref03.Table -/
theorem q140 (H : T OB) (nx : Nat) : evT P pl (.call 140 [] false none H nx) =
  effQ (efBuildSlice P H nx 205 37 (some [(0, (.agg ⟨[(.string ⟨⟨[]⟩⟩), (.string ⟨⟨[]⟩⟩), (.string ⟨⟨[]⟩⟩), (.string ⟨⟨[]⟩⟩)]⟩)), (1, (.agg ⟨[(.string ⟨⟨[105, 110, 116]⟩⟩), (.string ⟨⟨[97, 110]⟩⟩), (.string ⟨⟨[]⟩⟩), (.string ⟨⟨[97]⟩⟩)]⟩)), (2, (.agg ⟨[(.string ⟨⟨[108, 105, 116]⟩⟩), (.string ⟨⟨[97, 110]⟩⟩), (.string ⟨⟨[]⟩⟩), (.string ⟨⟨[97]⟩⟩)]⟩)), (3, (.agg ⟨[(.string ⟨⟨[109, 111, 118, 101]⟩⟩), (.string ⟨⟨[97, 98]⟩⟩), (.string ⟨⟨[98]⟩⟩), (.string ⟨⟨[97]⟩⟩)]⟩)), (4, (.agg ⟨[(.string ⟨⟨[112, 117, 116]⟩⟩), (.string ⟨⟨[97, 110]⟩⟩), (.string ⟨⟨[97]⟩⟩), (.string ⟨⟨[]⟩⟩)]⟩)), (5, (.agg ⟨[(.string ⟨⟨[108, 111, 97, 100]⟩⟩), (.string ⟨⟨[97, 110]⟩⟩), (.string ⟨⟨[]⟩⟩), (.string ⟨⟨[97]⟩⟩)]⟩)), (6, (.agg ⟨[(.string ⟨⟨[115, 97, 118, 101]⟩⟩), (.string ⟨⟨[97, 110]⟩⟩), (.string ⟨⟨[97]⟩⟩), (.string ⟨⟨[]⟩⟩)]⟩)), (7, (.agg ⟨[(.string ⟨⟨[97, 100, 100]⟩⟩), (.string ⟨⟨[97, 98, 99]⟩⟩), (.string ⟨⟨[98, 99]⟩⟩), (.string ⟨⟨[97]⟩⟩)]⟩)), (8, (.agg ⟨[(.string ⟨⟨[115, 117, 98]⟩⟩), (.string ⟨⟨[97, 98, 99]⟩⟩), (.string ⟨⟨[98, 99]⟩⟩), (.string ⟨⟨[97]⟩⟩)]⟩)), (9, (.agg ⟨[(.string ⟨⟨[109, 117, 108]⟩⟩), (.string ⟨⟨[97, 98, 99]⟩⟩), (.string ⟨⟨[98, 99]⟩⟩), (.string ⟨⟨[97]⟩⟩)]⟩)), (10, (.agg ⟨[(.string ⟨⟨[100, 105, 118]⟩⟩), (.string ⟨⟨[97, 98, 99]⟩⟩), (.string ⟨⟨[98, 99]⟩⟩), (.string ⟨⟨[97]⟩⟩)]⟩)), (11, (.agg ⟨[(.string ⟨⟨[109, 111, 100]⟩⟩), (.string ⟨⟨[97, 98, 99]⟩⟩), (.string ⟨⟨[98, 99]⟩⟩), (.string ⟨⟨[97]⟩⟩)]⟩)), (12, (.agg ⟨[(.string ⟨⟨[110, 101, 103]⟩⟩), (.string ⟨⟨[97, 98]⟩⟩), (.string ⟨⟨[98]⟩⟩), (.string ⟨⟨[97]⟩⟩)]⟩)), (13, (.agg ⟨[(.string ⟨⟨[108, 101, 115, 115]⟩⟩), (.string ⟨⟨[97, 98, 99]⟩⟩), (.string ⟨⟨[98, 99]⟩⟩), (.string ⟨⟨[97]⟩⟩)]⟩)), (14, (.agg ⟨[(.string ⟨⟨[97, 116, 109, 111, 115, 116]⟩⟩), (.string ⟨⟨[97, 98, 99]⟩⟩), (.string ⟨⟨[98, 99]⟩⟩), (.string ⟨⟨[97]⟩⟩)]⟩)), (15, (.agg ⟨[(.string ⟨⟨[115, 97, 109, 101]⟩⟩), (.string ⟨⟨[97, 98, 99]⟩⟩), (.string ⟨⟨[98, 99]⟩⟩), (.string ⟨⟨[97]⟩⟩)]⟩)), (16, (.agg ⟨[(.string ⟨⟨[116, 117, 112, 108, 101]⟩⟩), (.string ⟨⟨[97, 110]⟩⟩), (.string ⟨⟨[]⟩⟩), (.string ⟨⟨[97]⟩⟩)]⟩)), (17, (.agg ⟨[(.string ⟨⟨[99, 108, 111, 115, 117, 114, 101]⟩⟩), (.string ⟨⟨[97, 110]⟩⟩), (.string ⟨⟨[]⟩⟩), (.string ⟨⟨[97]⟩⟩)]⟩)), (18, (.agg ⟨[(.string ⟨⟨[114, 101, 102]⟩⟩), (.string ⟨⟨[97, 98]⟩⟩), (.string ⟨⟨[98]⟩⟩), (.string ⟨⟨[97]⟩⟩)]⟩)), (19, (.agg ⟨[(.string ⟨⟨[102, 105, 101, 108, 100]⟩⟩), (.string ⟨⟨[97, 98, 110]⟩⟩), (.string ⟨⟨[98]⟩⟩), (.string ⟨⟨[97]⟩⟩)]⟩)), (20, (.agg ⟨[(.string ⟨⟨[102, 105, 108, 108]⟩⟩), (.string ⟨⟨[97, 98, 110]⟩⟩), (.string ⟨⟨[97, 98]⟩⟩), (.string ⟨⟨[]⟩⟩)]⟩)), (21, (.agg ⟨[(.string ⟨⟨[97, 115, 115, 105, 103, 110]⟩⟩), (.string ⟨⟨[97, 98]⟩⟩), (.string ⟨⟨[97, 98]⟩⟩), (.string ⟨⟨[]⟩⟩)]⟩)), (22, (.agg ⟨[(.string ⟨⟨[116, 97, 103]⟩⟩), (.string ⟨⟨[97, 98]⟩⟩), (.string ⟨⟨[98]⟩⟩), (.string ⟨⟨[97]⟩⟩)]⟩)), (23, (.agg ⟨[(.string ⟨⟨[106, 117, 109, 112]⟩⟩), (.string ⟨⟨[110]⟩⟩), (.string ⟨⟨[]⟩⟩), (.string ⟨⟨[]⟩⟩)]⟩)), (24, (.agg ⟨[(.string ⟨⟨[117, 110, 108, 101, 115, 115]⟩⟩), (.string ⟨⟨[97, 110]⟩⟩), (.string ⟨⟨[97]⟩⟩), (.string ⟨⟨[]⟩⟩)]⟩)), (25, (.agg ⟨[(.string ⟨⟨[101, 110, 116, 101, 114]⟩⟩), (.string ⟨⟨[110]⟩⟩), (.string ⟨⟨[]⟩⟩), (.string ⟨⟨[]⟩⟩)]⟩)), (26, (.agg ⟨[(.string ⟨⟨[99, 97, 108, 108]⟩⟩), (.string ⟨⟨[97, 98]⟩⟩), (.string ⟨⟨[97, 98]⟩⟩), (.string ⟨⟨[48]⟩⟩)]⟩)), (27, (.agg ⟨[(.string ⟨⟨[116, 97, 105, 108]⟩⟩), (.string ⟨⟨[97, 98]⟩⟩), (.string ⟨⟨[97, 98]⟩⟩), (.string ⟨⟨[]⟩⟩)]⟩)), (28, (.agg ⟨[(.string ⟨⟨[114, 101, 116, 117, 114, 110]⟩⟩), (.string ⟨⟨[97]⟩⟩), (.string ⟨⟨[97]⟩⟩), (.string ⟨⟨[]⟩⟩)]⟩)), (29, (.agg ⟨[(.string ⟨⟨[104, 97, 110, 100, 108, 101]⟩⟩), (.string ⟨⟨[110]⟩⟩), (.string ⟨⟨[]⟩⟩), (.string ⟨⟨[]⟩⟩)]⟩)), (30, (.agg ⟨[(.string ⟨⟨[117, 110, 104, 97, 110, 100, 108, 101]⟩⟩), (.string ⟨⟨[]⟩⟩), (.string ⟨⟨[]⟩⟩), (.string ⟨⟨[]⟩⟩)]⟩)), (31, (.agg ⟨[(.string ⟨⟨[114, 97, 105, 115, 101]⟩⟩), (.string ⟨⟨[97]⟩⟩), (.string ⟨⟨[97]⟩⟩), (.string ⟨⟨[]⟩⟩)]⟩)), (32, (.agg ⟨[(.string ⟨⟨[106, 111, 105, 110]⟩⟩), (.string ⟨⟨[97, 98, 99]⟩⟩), (.string ⟨⟨[98, 99]⟩⟩), (.string ⟨⟨[97]⟩⟩)]⟩)), (33, (.agg ⟨[(.string ⟨⟨[115, 105, 122, 101]⟩⟩), (.string ⟨⟨[97, 98]⟩⟩), (.string ⟨⟨[98]⟩⟩), (.string ⟨⟨[97]⟩⟩)]⟩)), (34, (.agg ⟨[(.string ⟨⟨[115, 116, 114]⟩⟩), (.string ⟨⟨[97, 98]⟩⟩), (.string ⟨⟨[98]⟩⟩), (.string ⟨⟨[97]⟩⟩)]⟩)), (35, (.agg ⟨[(.string ⟨⟨[111, 114, 100]⟩⟩), (.string ⟨⟨[97, 98, 99]⟩⟩), (.string ⟨⟨[98, 99]⟩⟩), (.string ⟨⟨[97]⟩⟩)]⟩)), (36, (.agg ⟨[(.string ⟨⟨[100, 105, 103, 105, 116, 115]⟩⟩), (.string ⟨⟨[97, 98]⟩⟩), (.string ⟨⟨[98]⟩⟩), (.string ⟨⟨[97]⟩⟩)]⟩))])) (fun x0 H nx =>
  frzV P 205 x0 H nx (fun x1 H nx =>
  .ret ⟨.ret x1, false, H, nx⟩)) := by kernel_rfl
/-! kindling/core.text$1 -/
theorem q146 (a0 : Value) (a1 : Value) (a2 : Value) (H : T OB) (nx : Nat) : evT P pl (.call 146 [a0, a1, a2] false none H nx) =
  optK (rdLoad P H 100 (some a1)) (fun x0 =>
  effQ (efAppS P H nx [100, 9] (some [x0, a0])) (fun x1 H nx =>
  effQ (efStore P H nx 100 (some a1) (some x1)) (fun x2 H nx =>
  optK (rdLoad P H 100 (some a1)) (fun x3 =>
  optK (rdFieldAddr P 25 (some a2) 1) (fun x4 =>
  optK (rdLoad P H 3 (some x4)) (fun x5 =>
  callQ (.call 82 [x5] false none H nx) (fun x6 H nx =>
  bK (optK (rdLoad P H 100 (some a1)) (fun u => vEq u x3) false && true) (effQ (efAppS P H nx [100, 9] (some [x3, x6])) (fun x7 H nx =>
  effQ (efStore P H nx 100 (some a1) (some x7)) (fun x8 H nx =>
  .ret ⟨.ret (.tuple ⟨[]⟩), false, H, nx⟩))) .bad) panK) .bad) .bad) .bad))) .bad := by kernel_rfl
/-! kindling/core.quoted -/
noncomputable def l147_9 (t0 : Value) (t1 : Value) (t5 : Value) (H : T OB) (nx : Nat) : Cfg := .at ⟨147, 65, false, [], none, false⟩ (tmOf [(0, t0), (1, t1), (5, t5)]) (todoOf P 147 9) H nx
noncomputable def l147_18 (t0 : Value) (t1 : Value) (t5 : Value) (t6 : Value) (t23 : Bool) (H : T OB) (nx : Nat) : Cfg := .at ⟨147, 65, false, [], none, false⟩ (tmOf [(0, t0), (1, t1), (5, t5), (6, t6), (23, .bool t23)]) (todoOf P 147 18) H nx
noncomputable def l147_30 (t0 : Value) (t1 : Value) (t5 : Value) (t6 : Value) (t46 : Bool) (H : T OB) (nx : Nat) : Cfg := .at ⟨147, 65, false, [], none, false⟩ (tmOf [(0, t0), (1, t1), (5, t5), (6, t6), (46, .bool t46)]) (todoOf P 147 30) H nx
theorem q147 (a0 : Value) (a1 : Value) (H : T OB) (nx : Nat) : evT P pl (.call 147 [a0, a1] false none H nx) =
  effQ (efBuildSlice P H nx 100 1 (some [(0, (.int .u8 34))])) (fun x0 H nx =>
  effQ (efAppS P H nx [100, 100] (some [a0, x0])) (fun x1 H nx =>
  .jump (l147_9 x1 a1 (.int .i64 0) H nx))) := by kernel_rfl
theorem q147_9 (t0 : Value) (t1 : Value) (t5 : Value) (H : T OB) (nx : Nat) : evT P pl (l147_9 t0 t1 t5 H nx) =
  optK (rdLen P #[9] 3 (some [t1])) (fun x0 =>
  optK (rdBin P H .lss 3 false (some t5) (some x0)) (fun x1 =>
  bvK x1 (fun b2 => bK b2
 (optK (rdIndex P 9 (some t1) (some t5)) (fun x3 =>
  optK (rdBin P H .eql 5 true (some x3) (some (.int .u8 34))) (fun x4 =>
  bvK x4 (fun b5 => bK b5 (.jump (l147_18 t0 t1 t5 x3 true H nx)) (optK (rdBin P H .eql 5 true (some x3) (some (.int .u8 92))) (fun x6 =>
  bvK x6 (fun b7 => .jump (l147_18 t0 t1 t5 x3 b7 H nx)) .bad) .bad)) .bad) .bad) .bad)
 (effQ (efBuildSlice P H nx 100 1 (some [(0, (.int .u8 34))])) (fun x8 H nx =>
  effQ (efAppS P H nx [100, 100] (some [t0, x8])) (fun x9 H nx =>
  .ret ⟨.ret x9, false, H, nx⟩)))) .bad) .bad) .bad := by kernel_rfl
theorem q147_18 (t0 : Value) (t1 : Value) (t5 : Value) (t6 : Value) (t23 : Bool) (H : T OB) (nx : Nat) : evT P pl (l147_18 t0 t1 t5 t6 t23 H nx) =
  bK t23
 (effQ (efBuildSlice P H nx 100 2 (some [(0, (.int .u8 92)), (1, t6)])) (fun x0 H nx =>
  effQ (efAppS P H nx [100, 100] (some [t0, x0])) (fun x1 H nx =>
  optK (rdBin P H .add 3 true (some t5) (some (.int .i64 1))) (fun x2 =>
  .jump (l147_9 x1 t1 x2 H nx)) .bad)))
 (optK (rdBin P H .eql 5 true (some t6) (some (.int .u8 10))) (fun x3 =>
  bvK x3 (fun b4 => bK b4
 (effQ (efBuildSlice P H nx 100 2 (some [(0, (.int .u8 92)), (1, (.int .u8 110))])) (fun x5 H nx =>
  effQ (efAppS P H nx [100, 100] (some [t0, x5])) (fun x6 H nx =>
  optK (rdBin P H .add 3 true (some t5) (some (.int .i64 1))) (fun x7 =>
  .jump (l147_9 x6 t1 x7 H nx)) .bad)))
 (optK (rdBin P H .eql 5 true (some t6) (some (.int .u8 9))) (fun x8 =>
  bvK x8 (fun b9 => bK b9
 (effQ (efBuildSlice P H nx 100 2 (some [(0, (.int .u8 92)), (1, (.int .u8 116))])) (fun x10 H nx =>
  effQ (efAppS P H nx [100, 100] (some [t0, x10])) (fun x11 H nx =>
  optK (rdBin P H .add 3 true (some t5) (some (.int .i64 1))) (fun x12 =>
  .jump (l147_9 x11 t1 x12 H nx)) .bad)))
 (optK (rdBin P H .lss 5 true (some t6) (some (.int .u8 32))) (fun x13 =>
  bvK x13 (fun b14 => bK b14 (.jump (l147_30 t0 t1 t5 t6 true H nx)) (optK (rdBin P H .gtr 5 true (some t6) (some (.int .u8 126))) (fun x15 =>
  bvK x15 (fun b16 => .jump (l147_30 t0 t1 t5 t6 b16 H nx)) .bad) .bad)) .bad) .bad)) .bad) .bad)) .bad) .bad) := by kernel_rfl
theorem q147_30 (t0 : Value) (t1 : Value) (t5 : Value) (t6 : Value) (t46 : Bool) (H : T OB) (nx : Nat) : evT P pl (l147_30 t0 t1 t5 t6 t46 H nx) =
  bK t46
 (optK (rdBin P H .shr 5 true (some t6) (some (.int .u64 4))) (fun x0 =>
  optK (rdIndex P 9 (some (.string ⟨⟨[48, 49, 50, 51, 52, 53, 54, 55, 56, 57, 65, 66, 67, 68, 69, 70]⟩⟩)) (some x0)) (fun x1 =>
  optK (rdBin P H .and 5 true (some t6) (some (.int .u8 15))) (fun x2 =>
  optK (rdIndex P 9 (some (.string ⟨⟨[48, 49, 50, 51, 52, 53, 54, 55, 56, 57, 65, 66, 67, 68, 69, 70]⟩⟩)) (some x2)) (fun x3 =>
  effQ (efBuildSlice P H nx 100 4 (some [(0, (.int .u8 92)), (1, (.int .u8 120)), (2, x1), (3, x3)])) (fun x4 H nx =>
  effQ (efAppS P H nx [100, 100] (some [t0, x4])) (fun x5 H nx =>
  optK (rdBin P H .add 3 true (some t5) (some (.int .i64 1))) (fun x6 =>
  .jump (l147_9 x5 t1 x6 H nx)) .bad))) .bad) .bad) .bad) .bad)
 (effQ (efBuildSlice P H nx 100 1 (some [(0, t6)])) (fun x7 H nx =>
  effQ (efAppS P H nx [100, 100] (some [t0, x7])) (fun x8 H nx =>
  optK (rdBin P H .add 3 true (some t5) (some (.int .i64 1))) (fun x9 =>
  .jump (l147_9 x8 t1 x9 H nx)) .bad))) := by kernel_rfl
end
end Go.Proofs.YtfdgoenmdalphaaGreatDoor
