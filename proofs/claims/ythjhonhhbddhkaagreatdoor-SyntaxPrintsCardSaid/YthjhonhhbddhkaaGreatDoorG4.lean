/- What functions of the program say, as trees. -/
import Derived.Test.YthjhonhhbddhkaaGreatDoorG3
import Derived.KernelRfl
namespace Go.Proofs.YthjhonhhbddhkaaGreatDoor
open Go.Ev Go.RowKit
noncomputable section
set_option linter.unusedVariables false
set_option maxHeartbeats 8000000
theorem q5 (a0 : Value) (H : T OB) (nx : Nat) : evT P pl (.call 5 [a0] false none H nx) =
 callQ (.call 18 [a0] false none H nx) (fun x0 H nx =>
 bvK x0 (fun b1 => bK b1
 (callQ (.call 11 [] false none H nx) (fun x2 H nx =>
  bvK x2 (fun b3 => .ret ⟨.ret (.bool b3), false, H, nx⟩) .bad) panK)
 (callQ (.call 19 [a0] false none H nx) (fun x4 H nx =>
  optK (rdExtract (some x4) 0) (fun x5 =>
  optK (rdExtract (some x4) 1) (fun x6 =>
  callQ (.call 20 [a0] false none H nx) (fun x7 H nx =>
  optK (rdExtract (some x7) 0) (fun x8 =>
  optK (rdExtract (some x7) 1) (fun x9 =>
  callQ (.call 19 [a0] false none H nx) (fun x10 H nx =>
  optK (rdExtract (some x10) 0) (fun x11 =>
  optK (rdExtract (some x10) 1) (fun x12 =>
  optK (rdBin P H .eql 9 false (some x5) (some x8)) (fun x13 =>
  bvK x13 (fun b14 => bK b14 (optK (rdBin P H .eql 25 false (some x6) (some x9)) (fun x15 =>
  bvK x15 (fun b16 => bK b16 (optK (rdBin P H .eql 9 false (some x11) (some x5)) (fun x17 =>
  bvK x17 (fun b18 => bK b18 (optK (rdBin P H .eql 25 false (some x12) (some x6)) (fun x19 =>
  bvK x19 (fun b20 => bK b20 (callQ (.call 11 [] false none H nx) (fun x21 H nx =>
  bvK x21 (fun b22 => .ret ⟨.ret (.bool b22), false, H, nx⟩) .bad) panK) (.ret ⟨.ret (.bool false), false, H, nx⟩)) .bad) .bad) (.ret ⟨.ret (.bool false), false, H, nx⟩)) .bad) .bad) (.ret ⟨.ret (.bool false), false, H, nx⟩)) .bad) .bad) (.ret ⟨.ret (.bool false), false, H, nx⟩)) .bad) .bad) .bad) .bad) panK) .bad) .bad) panK) .bad) .bad) panK)) .bad) panK := by kernel_rfl
def l14_11 (t0 t1 t5 : Value) (H : T OB) (nx : Nat) : Cfg := .at ⟨14, 114, false, [], none, false⟩ (tmOf [(0, t0), (1, t1), (5, t5)]) (todoOf P 14 11) H nx
def l14_18 (t0 t1 t5 t6 t7 : Value) (t75 : Bool) (H : T OB) (nx : Nat) : Cfg := .at ⟨14, 114, false, [], none, false⟩ (tmOf [(0, t0), (1, t1), (5, t5), (6, t6), (7, t7), (75, .bool t75)]) (todoOf P 14 18) H nx
def l14_23 (t0 t1 t5 t6 t7 t8 : Value) (H : T OB) (nx : Nat) : Cfg := .at ⟨14, 114, false, [], none, false⟩ (tmOf [(0, t0), (1, t1), (5, t5), (6, t6), (7, t7), (8, t8)]) (todoOf P 14 23) H nx
def l14_30 (t0 t1 t5 t6 t7 t8 : Value) (t113 : Bool) (H : T OB) (nx : Nat) : Cfg := .at ⟨14, 114, false, [], none, false⟩ (tmOf [(0, t0), (1, t1), (5, t5), (6, t6), (7, t7), (8, t8), (113, .bool t113)]) (todoOf P 14 30) H nx
theorem q14 (a0 a1 : Value) (H : T OB) (nx : Nat) : evT P pl (.call 14 [a0, a1] false none H nx) =
 frzV P 24 a0 H nx (fun x0 H nx =>
 frzV P 24 a1 H nx (fun x1 H nx =>
 optK (rdLen P #[24] 3 (some [x0])) (fun x2 =>
 optK (rdLen P #[24] 3 (some [x1])) (fun x3 =>
 optK (rdBin P H .neq 3 false (some x2) (some x3)) (fun x4 =>
 bvK x4 (fun b5 => bK b5
 (.ret ⟨.ret (.bool false), false, H, nx⟩)
 (.jump (l14_11 x0 x1 (.int .i64 0) H nx))) .bad) .bad) .bad) .bad)) := by kernel_rfl
theorem q14_11 (t0 t1 t5 : Value) (H : T OB) (nx : Nat) : evT P pl (l14_11 t0 t1 t5 H nx) =
 optK (rdLen P #[24] 3 (some [t0])) (fun x0 =>
 optK (rdBin P H .lss 3 false (some t5) (some x0)) (fun x1 =>
 bvK x1 (fun b2 => bK b2
 (optK (rdIndexAddr P 24 (some t0) (some t5)) (fun x3 =>
  optK (rdLoad P H 57 (some x3)) (fun x4 =>
  optK (rdIndexAddr P 24 (some t1) (some t5)) (fun x5 =>
  optK (rdLoad P H 57 (some x5)) (fun x6 =>
  effQ (efAlloc P H nx 57) (fun x7 H nx =>
  effQ (efAlloc P H nx 57) (fun x8 H nx =>
  effQ (efStore P H nx 57 (some x7) (some x4)) (fun x9 H nx =>
  bK (optK (rdLoad P H 57 (some x5)) (fun u => vEq u x6) false && true) (effQ (efStore P H nx 57 (some x8) (some x6)) (fun x10 H nx =>
  optK (rdFieldAddr P 57 (some x7) 0) (fun x11 =>
  optK (rdLoad P H 3 (some x11)) (fun x12 =>
  optK (rdFieldAddr P 57 (some x8) 0) (fun x13 =>
  optK (rdLoad P H 3 (some x13)) (fun x14 =>
  optK (rdBin P H .neq 3 false (some x12) (some x14)) (fun x15 =>
  bvK x15 (fun b16 => bK b16 (.jump (l14_18 t0 t1 t5 x7 x8 true H nx)) (optK (rdFieldAddr P 57 (some x7) 1) (fun x17 =>
  optK (rdLoad P H 47 (some x17)) (fun x18 =>
  optK (rdFieldAddr P 57 (some x8) 1) (fun x19 =>
  optK (rdLoad P H 47 (some x19)) (fun x20 =>
  callQ (.call 29 [x18, x20] false none H nx) (fun x21 H nx =>
  bvK x21 (fun b22 => optK (unV P .not (some (.bool b22))) (fun x23 =>
  bvK x23 (fun b24 => bK b24 (.jump (l14_18 t0 t1 t5 x7 x8 true H nx)) (optK (rdFieldAddr P 57 (some x7) 2) (fun x25 =>
  optK (rdLoad P H 44 (some x25)) (fun x26 =>
  optK (rdFieldAddr P 57 (some x8) 2) (fun x27 =>
  optK (rdLoad P H 44 (some x27)) (fun x28 =>
  callQ (.call 25 [x26, x28] false none H nx) (fun x29 H nx =>
  bvK x29 (fun b30 => optK (unV P .not (some (.bool b30))) (fun x31 =>
  bvK x31 (fun b32 => bK b32 (.jump (l14_18 t0 t1 t5 x7 x8 true H nx)) (optK (rdFieldAddr P 57 (some x7) 3) (fun x33 =>
  optK (rdLoad P H 48 (some x33)) (fun x34 =>
  optK (rdLen P #[48] 3 (some [x34])) (fun x35 =>
  optK (rdFieldAddr P 57 (some x8) 3) (fun x36 =>
  optK (rdLoad P H 48 (some x36)) (fun x37 =>
  optK (rdLen P #[48] 3 (some [x37])) (fun x38 =>
  optK (rdBin P H .neq 3 false (some x35) (some x38)) (fun x39 =>
  bvK x39 (fun b40 => bK b40 (.jump (l14_18 t0 t1 t5 x7 x8 true H nx)) (optK (rdFieldAddr P 57 (some x7) 5) (fun x41 =>
  optK (rdLoad P H 55 (some x41)) (fun x42 =>
  optK (rdFieldAddr P 57 (some x8) 5) (fun x43 =>
  optK (rdLoad P H 55 (some x43)) (fun x44 =>
  callQ (.call 30 [x42, x44] false none H nx) (fun x45 H nx =>
  bvK x45 (fun b46 => optK (unV P .not (some (.bool b46))) (fun x47 =>
  bvK x47 (fun b48 => bK b48 (.jump (l14_18 t0 t1 t5 x7 x8 true H nx)) (optK (rdFieldAddr P 57 (some x7) 4) (fun x49 =>
  optK (rdLoad P H 52 (some x49)) (fun x50 =>
  optK (rdFieldAddr P 57 (some x8) 4) (fun x51 =>
  optK (rdLoad P H 52 (some x51)) (fun x52 =>
  callQ (.call 31 [x50, x52] false none H nx) (fun x53 H nx =>
  bvK x53 (fun b54 => optK (unV P .not (some (.bool b54))) (fun x55 =>
  bvK x55 (fun b56 => .jump (l14_18 t0 t1 t5 x7 x8 b56 H nx)) .bad) .bad) .bad) panK) .bad) .bad) .bad) .bad)) .bad) .bad) .bad) panK) .bad) .bad) .bad) .bad)) .bad) .bad) .bad) .bad) .bad) .bad) .bad) .bad)) .bad) .bad) .bad) panK) .bad) .bad) .bad) .bad)) .bad) .bad) .bad) panK) .bad) .bad) .bad) .bad)) .bad) .bad) .bad) .bad) .bad) .bad)) .bad)))) .bad) .bad) .bad) .bad)
 (.ret ⟨.ret (.bool true), false, H, nx⟩)) .bad) .bad) .bad := by kernel_rfl
theorem q14_18 (t0 t1 t5 t6 t7 : Value) (t75 : Bool) (H : T OB) (nx : Nat) : evT P pl (l14_18 t0 t1 t5 t6 t7 t75 H nx) =
 bK t75
 (.ret ⟨.ret (.bool false), false, H, nx⟩)
 (.jump (l14_23 t0 t1 t5 t6 t7 (.int .i64 0) H nx)) := by kernel_rfl
theorem q14_23 (t0 t1 t5 t6 t7 t8 : Value) (H : T OB) (nx : Nat) : evT P pl (l14_23 t0 t1 t5 t6 t7 t8 H nx) =
 optK (rdFieldAddr P 57 (some t6) 3) (fun x0 =>
 optK (rdLoad P H 48 (some x0)) (fun x1 =>
 optK (rdLen P #[48] 3 (some [x1])) (fun x2 =>
 optK (rdBin P H .lss 3 false (some t8) (some x2)) (fun x3 =>
 bvK x3 (fun b4 => bK b4
 (optK (rdFieldAddr P 57 (some t6) 3) (fun x5 =>
  optK (rdLoad P H 48 (some x5)) (fun x6 =>
  optK (rdIndexAddr P 48 (some x6) (some t8)) (fun x7 =>
  optK (rdLoad P H 65 (some x7)) (fun x8 =>
  optK (rdFieldAddr P 57 (some t7) 3) (fun x9 =>
  optK (rdLoad P H 48 (some x9)) (fun x10 =>
  optK (rdIndexAddr P 48 (some x10) (some t8)) (fun x11 =>
  optK (rdLoad P H 65 (some x11)) (fun x12 =>
  effQ (efAlloc P H nx 65) (fun x13 H nx =>
  effQ (efAlloc P H nx 65) (fun x14 H nx =>
  effQ (efStore P H nx 65 (some x13) (some x8)) (fun x15 H nx =>
  bK (optK (rdLoad P H 65 (some x11)) (fun u => vEq u x12) false && (optK (rdLoad P H 48 (some x9)) (fun u => vEq u x10) false && true)) (effQ (efStore P H nx 65 (some x14) (some x12)) (fun x16 H nx =>
  optK (rdFieldAddr P 65 (some x13) 0) (fun x17 =>
  optK (rdLoad P H 9 (some x17)) (fun x18 =>
  optK (rdFieldAddr P 65 (some x14) 0) (fun x19 =>
  optK (rdLoad P H 9 (some x19)) (fun x20 =>
  optK (rdBin P H .neq 9 false (some x18) (some x20)) (fun x21 =>
  bvK x21 (fun b22 => bK b22 (.jump (l14_30 t0 t1 t5 t6 t7 t8 true H nx)) (optK (rdFieldAddr P 65 (some x13) 1) (fun x23 =>
  optK (rdLoad P H 42 (some x23)) (fun x24 =>
  optK (rdFieldAddr P 65 (some x14) 1) (fun x25 =>
  optK (rdLoad P H 42 (some x25)) (fun x26 =>
  callQ (.call 32 [x24, x26] false none H nx) (fun x27 H nx =>
  bvK x27 (fun b28 => optK (unV P .not (some (.bool b28))) (fun x29 =>
  bvK x29 (fun b30 => bK b30 (.jump (l14_30 t0 t1 t5 t6 t7 t8 true H nx)) (optK (rdFieldAddr P 65 (some x13) 2) (fun x31 =>
  optK (rdLoad P H 44 (some x31)) (fun x32 =>
  optK (rdFieldAddr P 65 (some x14) 2) (fun x33 =>
  optK (rdLoad P H 44 (some x33)) (fun x34 =>
  callQ (.call 25 [x32, x34] false none H nx) (fun x35 H nx =>
  bvK x35 (fun b36 => optK (unV P .not (some (.bool b36))) (fun x37 =>
  bvK x37 (fun b38 => .jump (l14_30 t0 t1 t5 t6 t7 t8 b38 H nx)) .bad) .bad) .bad) panK) .bad) .bad) .bad) .bad)) .bad) .bad) .bad) panK) .bad) .bad) .bad) .bad)) .bad) .bad) .bad) .bad) .bad) .bad)) .bad)))) .bad) .bad) .bad) .bad) .bad) .bad) .bad) .bad)
 (optK (rdBin P H .add 3 true (some t5) (some (.int .i64 1))) (fun x39 =>
  .jump (l14_11 t0 t1 x39 H nx)) .bad)) .bad) .bad) .bad) .bad) .bad := by kernel_rfl
theorem q14_30 (t0 t1 t5 t6 t7 t8 : Value) (t113 : Bool) (H : T OB) (nx : Nat) : evT P pl (l14_30 t0 t1 t5 t6 t7 t8 t113 H nx) =
 bK t113
 (.ret ⟨.ret (.bool false), false, H, nx⟩)
 (optK (rdBin P H .add 3 true (some t8) (some (.int .i64 1))) (fun x0 =>
  .jump (l14_23 t0 t1 t5 t6 t7 x0 H nx)) .bad) := by kernel_rfl
theorem q18 (a0 : Value) (H : T OB) (nx : Nat) : evT P pl (.call 18 [a0] false none H nx) =
 callQ (.call 41 [a0, (.int .i64 500)] false none H nx) (fun x0 H nx =>
 optK (rdBin P H .gtr 3 true (some x0) (some (.int .i64 500))) (fun x1 =>
 bvK x1 (fun b2 => .ret ⟨.ret (.bool b2), false, H, nx⟩) .bad) .bad) panK := by kernel_rfl
theorem q19 (a0 : Value) (H : T OB) (nx : Nat) : evT P pl (.call 19 [a0] false none H nx) =
 callQ (.call 42 [a0] false none H nx) (fun x0 H nx =>
 optK (rdExtract (some x0) 0) (fun x1 =>
 optK (rdExtract (some x0) 1) (fun x2 =>
 bvK x2 (fun b3 => optK (unV P .not (some (.bool b3))) (fun x4 =>
 bvK x4 (fun b5 => bK b5
 (.ret ⟨.ret (.tuple ⟨[(.string ⟨⟨[]⟩⟩), (.int .i64 110)]⟩), false, H, nx⟩)
 (callQ (.call 43 [x1] false none H nx) (fun x6 H nx =>
  optK (rdExtract (some x6) 0) (fun x7 =>
  optK (rdExtract (some x6) 1) (fun x8 =>
  .ret ⟨.ret (.tuple ⟨[x7, x8]⟩), false, H, nx⟩) .bad) .bad) panK)) .bad) .bad) .bad) .bad) .bad) panK := by kernel_rfl
def l20_13 (t0 t4 t5 : Value) (H : T OB) (nx : Nat) : Cfg := .at ⟨20, 28, false, [], none, false⟩ (tmOf [(0, t0), (4, t4), (5, t5)]) (todoOf P 20 13) H nx
def l20_20 (t0 t4 t5 : Value) (H : T OB) (nx : Nat) : Cfg := .at ⟨20, 28, false, [], none, false⟩ (tmOf [(0, t0), (4, t4), (5, t5)]) (todoOf P 20 20) H nx
theorem q20 (a0 : Value) (H : T OB) (nx : Nat) : evT P pl (.call 20 [a0] false none H nx) =
 callQ (.call 21 [a0] false none H nx) (fun x0 H nx =>
 bvK x0 (fun b1 => optK (unV P .not (some (.bool b1))) (fun x2 =>
 bvK x2 (fun b3 => bK b3
 (.ret ⟨.ret (.tuple ⟨[(.string ⟨⟨[]⟩⟩), (.int .i64 110)]⟩), false, H, nx⟩)
 (.jump (l20_13 a0 (.string ⟨⟨[]⟩⟩) (.int .i64 0) H nx))) .bad) .bad) .bad) panK := by kernel_rfl
theorem q20_13 (t0 t4 t5 : Value) (H : T OB) (nx : Nat) : evT P pl (l20_13 t0 t4 t5 H nx) =
 optK (rdLen P #[24] 3 (some [t0])) (fun x0 =>
 optK (rdBin P H .lss 3 false (some t5) (some x0)) (fun x1 =>
 bvK x1 (fun b2 => bK b2
 (optK (rdBin P H .gtr 3 true (some t5) (some (.int .i64 0))) (fun x3 =>
  bvK x3 (fun b4 => bK b4
 (optK (rdBin P H .add 9 true (some t4) (some (.string ⟨⟨[32]⟩⟩))) (fun x5 =>
  .jump (l20_20 t0 x5 t5 H nx)) .bad)
 (.jump (l20_20 t0 t4 t5 H nx))) .bad) .bad)
 (.ret ⟨.ret (.tuple ⟨[t4, (.int .i64 0)]⟩), false, H, nx⟩)) .bad) .bad) .bad := by kernel_rfl
theorem q20_20 (t0 t4 t5 : Value) (H : T OB) (nx : Nat) : evT P pl (l20_20 t0 t4 t5 H nx) =
 optK (rdIndexAddr P 24 (some t0) (some t5)) (fun x0 =>
 optK (rdLoad P H 57 (some x0)) (fun x1 =>
 callQ (.call 44 [x1] false none H nx) (fun x2 H nx =>
 optK (rdBin P H .add 9 false (some t4) (some x2)) (fun x3 =>
 optK (rdBin P H .add 9 true (some x3) (some (.string ⟨⟨[32, 59]⟩⟩))) (fun x4 =>
 optK (rdBin P H .add 3 true (some t5) (some (.int .i64 1))) (fun x5 =>
 .jump (l20_13 t0 x4 x5 H nx)) .bad) .bad) .bad) panK) .bad) .bad := by kernel_rfl
def l21_7 (t0 t3 : Value) (H : T OB) (nx : Nat) : Cfg := .at ⟨21, 16, false, [], none, false⟩ (tmOf [(0, t0), (3, t3)]) (todoOf P 21 7) H nx
theorem q21 (a0 : Value) (H : T OB) (nx : Nat) : evT P pl (.call 21 [a0] false none H nx) =
 .jump (l21_7 a0 (.int .i64 0) H nx) := by kernel_rfl
theorem q21_7 (t0 t3 : Value) (H : T OB) (nx : Nat) : evT P pl (l21_7 t0 t3 H nx) =
 optK (rdLen P #[24] 3 (some [t0])) (fun x0 =>
 optK (rdBin P H .lss 3 false (some t3) (some x0)) (fun x1 =>
 bvK x1 (fun b2 => bK b2
 (optK (rdIndexAddr P 24 (some t0) (some t3)) (fun x3 =>
  optK (rdLoad P H 57 (some x3)) (fun x4 =>
  callQ (.call 45 [x4] false none H nx) (fun x5 H nx =>
  bvK x5 (fun b6 => optK (unV P .not (some (.bool b6))) (fun x7 =>
  bvK x7 (fun b8 => bK b8
 (.ret ⟨.ret (.bool false), false, H, nx⟩)
 (optK (rdBin P H .add 3 true (some t3) (some (.int .i64 1))) (fun x9 =>
  .jump (l21_7 t0 x9 H nx)) .bad)) .bad) .bad) .bad) panK) .bad) .bad)
 (.ret ⟨.ret (.bool true), false, H, nx⟩)) .bad) .bad) .bad := by kernel_rfl
def l25_6 (t2 t3 : Value) (t49 : Bool) (H : T OB) (nx : Nat) : Cfg := .at ⟨25, 69, false, [], none, false⟩ (tmOf [(2, t2), (3, t3), (49, .bool t49)]) (todoOf P 25 6) H nx
def l25_11 (t2 t3 t5 : Value) (H : T OB) (nx : Nat) : Cfg := .at ⟨25, 69, false, [], none, false⟩ (tmOf [(2, t2), (3, t3), (5, t5)]) (todoOf P 25 11) H nx
theorem q25 (a0 a1 : Value) (H : T OB) (nx : Nat) : evT P pl (.call 25 [a0, a1] false none H nx) =
 frzV P 44 a0 H nx (fun x0 H nx =>
 natF (Nat.succ nx) (fun nx =>
 natF (Nat.succ nx) (fun nx =>
 optK (rdFieldAddr P 44 (some (eptrV x0)) 0) (fun x1 =>
 optK (rdLoad P H 3 (some x1)) (fun x2 =>
 optK (rdFieldAddr P 44 (some (eptrV a1)) 0) (fun x3 =>
 optK (rdLoad P H 3 (some x3)) (fun x4 =>
 optK (rdBin P H .neq 3 false (some x2) (some x4)) (fun x5 =>
 bvK x5 (fun b6 => bK b6 (.jump (l25_6 (eptrV x0) (eptrV a1) true H nx)) (optK (rdFieldAddr P 44 (some (eptrV x0)) 1) (fun x7 =>
 optK (rdLoad P H 2 (some x7)) (fun x8 =>
 optK (rdFieldAddr P 44 (some (eptrV a1)) 1) (fun x9 =>
 optK (rdLoad P H 2 (some x9)) (fun x10 =>
 optK (rdBin P H .neq 2 false (some x8) (some x10)) (fun x11 =>
 bvK x11 (fun b12 => bK b12 (.jump (l25_6 (eptrV x0) (eptrV a1) true H nx)) (optK (rdFieldAddr P 44 (some (eptrV x0)) 2) (fun x13 =>
 optK (rdLoad P H 9 (some x13)) (fun x14 =>
 optK (rdFieldAddr P 44 (some (eptrV a1)) 2) (fun x15 =>
 optK (rdLoad P H 9 (some x15)) (fun x16 =>
 optK (rdBin P H .neq 9 false (some x14) (some x16)) (fun x17 =>
 bvK x17 (fun b18 => bK b18 (.jump (l25_6 (eptrV x0) (eptrV a1) true H nx)) (optK (rdFieldAddr P 44 (some (eptrV x0)) 3) (fun x19 =>
 optK (rdLoad P H 41 (some x19)) (fun x20 =>
 optK (rdLen P #[41] 3 (some [x20])) (fun x21 =>
 optK (rdFieldAddr P 44 (some (eptrV a1)) 3) (fun x22 =>
 optK (rdLoad P H 41 (some x22)) (fun x23 =>
 optK (rdLen P #[41] 3 (some [x23])) (fun x24 =>
 optK (rdBin P H .neq 3 false (some x21) (some x24)) (fun x25 =>
 bvK x25 (fun b26 => bK b26 (.jump (l25_6 (eptrV x0) (eptrV a1) true H nx)) (optK (rdFieldAddr P 44 (some (eptrV x0)) 4) (fun x27 =>
 optK (rdLoad P H 42 (some x27)) (fun x28 =>
 optK (rdFieldAddr P 44 (some (eptrV a1)) 4) (fun x29 =>
 optK (rdLoad P H 42 (some x29)) (fun x30 =>
 callQ (.call 32 [x28, x30] false none H nx) (fun x31 H nx =>
 bvK x31 (fun b32 => optK (unV P .not (some (.bool b32))) (fun x33 =>
 bvK x33 (fun b34 => bK b34 (.jump (l25_6 (eptrV x0) (eptrV a1) true H nx)) (optK (rdFieldAddr P 44 (some (eptrV x0)) 5) (fun x35 =>
 optK (rdLoad P H 24 (some x35)) (fun x36 =>
 optK (rdFieldAddr P 44 (some (eptrV a1)) 5) (fun x37 =>
 optK (rdLoad P H 24 (some x37)) (fun x38 =>
 callQ (.call 14 [x36, x38] false none H nx) (fun x39 H nx =>
 bvK x39 (fun b40 => optK (unV P .not (some (.bool b40))) (fun x41 =>
 bvK x41 (fun b42 => .jump (l25_6 (eptrV x0) (eptrV a1) b42 H nx)) .bad) .bad) .bad) panK) .bad) .bad) .bad) .bad)) .bad) .bad) .bad) panK) .bad) .bad) .bad) .bad)) .bad) .bad) .bad) .bad) .bad) .bad) .bad) .bad)) .bad) .bad) .bad) .bad) .bad) .bad)) .bad) .bad) .bad) .bad) .bad) .bad)) .bad) .bad) .bad) .bad) .bad) .bad))) := by kernel_rfl
theorem q25_6 (t2 t3 : Value) (t49 : Bool) (H : T OB) (nx : Nat) : evT P pl (l25_6 t2 t3 t49 H nx) =
 bK t49
 (.ret ⟨.ret (.bool false), false, H, nx⟩)
 (.jump (l25_11 t2 t3 (.int .i64 0) H nx)) := by kernel_rfl
theorem q25_11 (t2 t3 t5 : Value) (H : T OB) (nx : Nat) : evT P pl (l25_11 t2 t3 t5 H nx) =
 optK (rdFieldAddr P 44 (some t2) 3) (fun x0 =>
 optK (rdLoad P H 41 (some x0)) (fun x1 =>
 optK (rdLen P #[41] 3 (some [x1])) (fun x2 =>
 optK (rdBin P H .lss 3 false (some t5) (some x2)) (fun x3 =>
 bvK x3 (fun b4 => bK b4
 (optK (rdFieldAddr P 44 (some t2) 3) (fun x5 =>
  optK (rdLoad P H 41 (some x5)) (fun x6 =>
  optK (rdIndexAddr P 41 (some x6) (some t5)) (fun x7 =>
  optK (rdLoad P H 44 (some x7)) (fun x8 =>
  optK (rdFieldAddr P 44 (some t3) 3) (fun x9 =>
  optK (rdLoad P H 41 (some x9)) (fun x10 =>
  optK (rdIndexAddr P 41 (some x10) (some t5)) (fun x11 =>
  optK (rdLoad P H 44 (some x11)) (fun x12 =>
  callQ (.call 25 [x8, x12] false none H nx) (fun x13 H nx =>
  bvK x13 (fun b14 => optK (unV P .not (some (.bool b14))) (fun x15 =>
  bvK x15 (fun b16 => bK b16
 (.ret ⟨.ret (.bool false), false, H, nx⟩)
 (optK (rdBin P H .add 3 true (some t5) (some (.int .i64 1))) (fun x17 =>
  .jump (l25_11 t2 t3 x17 H nx)) .bad)) .bad) .bad) .bad) panK) .bad) .bad) .bad) .bad) .bad) .bad) .bad) .bad)
 (.ret ⟨.ret (.bool true), false, H, nx⟩)) .bad) .bad) .bad) .bad) .bad := by kernel_rfl
theorem q29 (a0 a1 : Value) (H : T OB) (nx : Nat) : evT P pl (.call 29 [a0, a1] false none H nx) =
 frzV P 47 a0 H nx (fun x0 H nx =>
 natF (Nat.succ nx) (fun nx =>
 natF (Nat.succ nx) (fun nx =>
 optK (rdFieldAddr P 47 (some (eptrV x0)) 0) (fun x1 =>
 optK (rdLoad P H 3 (some x1)) (fun x2 =>
 optK (rdFieldAddr P 47 (some (eptrV a1)) 0) (fun x3 =>
 optK (rdLoad P H 3 (some x3)) (fun x4 =>
 optK (rdBin P H .eql 3 false (some x2) (some x4)) (fun x5 =>
 bvK x5 (fun b6 => bK b6 (optK (rdFieldAddr P 47 (some (eptrV x0)) 1) (fun x7 =>
 optK (rdLoad P H 2 (some x7)) (fun x8 =>
 optK (rdFieldAddr P 47 (some (eptrV a1)) 1) (fun x9 =>
 optK (rdLoad P H 2 (some x9)) (fun x10 =>
 optK (rdBin P H .eql 2 false (some x8) (some x10)) (fun x11 =>
 bvK x11 (fun b12 => bK b12 (optK (rdFieldAddr P 47 (some (eptrV x0)) 2) (fun x13 =>
 optK (rdLoad P H 9 (some x13)) (fun x14 =>
 optK (rdFieldAddr P 47 (some (eptrV a1)) 2) (fun x15 =>
 optK (rdLoad P H 9 (some x15)) (fun x16 =>
 optK (rdBin P H .eql 9 false (some x14) (some x16)) (fun x17 =>
 bvK x17 (fun b18 => bK b18 (optK (rdFieldAddr P 47 (some (eptrV x0)) 3) (fun x19 =>
 optK (rdLoad P H 42 (some x19)) (fun x20 =>
 optK (rdFieldAddr P 47 (some (eptrV a1)) 3) (fun x21 =>
 optK (rdLoad P H 42 (some x21)) (fun x22 =>
 callQ (.call 32 [x20, x22] false none H nx) (fun x23 H nx =>
 bvK x23 (fun b24 => .ret ⟨.ret (.bool b24), false, H, nx⟩) .bad) panK) .bad) .bad) .bad) .bad) (.ret ⟨.ret (.bool false), false, H, nx⟩)) .bad) .bad) .bad) .bad) .bad) .bad) (.ret ⟨.ret (.bool false), false, H, nx⟩)) .bad) .bad) .bad) .bad) .bad) .bad) (.ret ⟨.ret (.bool false), false, H, nx⟩)) .bad) .bad) .bad) .bad) .bad) .bad))) := by kernel_rfl
theorem q30 (a0 a1 : Value) (H : T OB) (nx : Nat) : evT P pl (.call 30 [a0, a1] false none H nx) =
 frzV P 55 a0 H nx (fun x0 H nx =>
 natF (Nat.succ nx) (fun nx =>
 natF (Nat.succ nx) (fun nx =>
 optK (rdFieldAddr P 55 (some (eptrV x0)) 0) (fun x1 =>
 optK (rdLoad P H 9 (some x1)) (fun x2 =>
 optK (rdFieldAddr P 55 (some (eptrV a1)) 0) (fun x3 =>
 optK (rdLoad P H 9 (some x3)) (fun x4 =>
 optK (rdBin P H .eql 9 false (some x2) (some x4)) (fun x5 =>
 bvK x5 (fun b6 => bK b6 (optK (rdFieldAddr P 55 (some (eptrV x0)) 1) (fun x7 =>
 optK (rdLoad P H 53 (some x7)) (fun x8 =>
 optK (rdFieldAddr P 55 (some (eptrV a1)) 1) (fun x9 =>
 optK (rdLoad P H 53 (some x9)) (fun x10 =>
 callQ (.call 53 [x8, x10] false none H nx) (fun x11 H nx =>
 bvK x11 (fun b12 => .ret ⟨.ret (.bool b12), false, H, nx⟩) .bad) panK) .bad) .bad) .bad) .bad) (.ret ⟨.ret (.bool false), false, H, nx⟩)) .bad) .bad) .bad) .bad) .bad) .bad))) := by kernel_rfl
def l31_6 (t2 t3 : Value) (t29 : Bool) (H : T OB) (nx : Nat) : Cfg := .at ⟨31, 67, false, [], none, false⟩ (tmOf [(2, t2), (3, t3), (29, .bool t29)]) (todoOf P 31 6) H nx
def l31_11 (t2 t3 t5 : Value) (H : T OB) (nx : Nat) : Cfg := .at ⟨31, 67, false, [], none, false⟩ (tmOf [(2, t2), (3, t3), (5, t5)]) (todoOf P 31 11) H nx
def l31_21 (t2 t3 t6 : Value) (H : T OB) (nx : Nat) : Cfg := .at ⟨31, 67, false, [], none, false⟩ (tmOf [(2, t2), (3, t3), (6, t6)]) (todoOf P 31 21) H nx
theorem q31 (a0 a1 : Value) (H : T OB) (nx : Nat) : evT P pl (.call 31 [a0, a1] false none H nx) =
 frzV P 52 a0 H nx (fun x0 H nx =>
 natF (Nat.succ nx) (fun nx =>
 natF (Nat.succ nx) (fun nx =>
 optK (rdFieldAddr P 52 (some (eptrV x0)) 1) (fun x1 =>
 optK (rdLoad P H 9 (some x1)) (fun x2 =>
 optK (rdFieldAddr P 52 (some (eptrV a1)) 1) (fun x3 =>
 optK (rdLoad P H 9 (some x3)) (fun x4 =>
 optK (rdBin P H .neq 9 false (some x2) (some x4)) (fun x5 =>
 bvK x5 (fun b6 => bK b6 (.jump (l31_6 (eptrV x0) (eptrV a1) true H nx)) (optK (rdFieldAddr P 52 (some (eptrV x0)) 0) (fun x7 =>
 optK (rdLoad P H 49 (some x7)) (fun x8 =>
 optK (rdLen P #[49] 3 (some [x8])) (fun x9 =>
 optK (rdFieldAddr P 52 (some (eptrV a1)) 0) (fun x10 =>
 optK (rdLoad P H 49 (some x10)) (fun x11 =>
 optK (rdLen P #[49] 3 (some [x11])) (fun x12 =>
 optK (rdBin P H .neq 3 false (some x9) (some x12)) (fun x13 =>
 bvK x13 (fun b14 => bK b14 (.jump (l31_6 (eptrV x0) (eptrV a1) true H nx)) (optK (rdFieldAddr P 52 (some (eptrV x0)) 2) (fun x15 =>
 optK (rdLoad P H 50 (some x15)) (fun x16 =>
 optK (rdLen P #[50] 3 (some [x16])) (fun x17 =>
 optK (rdFieldAddr P 52 (some (eptrV a1)) 2) (fun x18 =>
 optK (rdLoad P H 50 (some x18)) (fun x19 =>
 optK (rdLen P #[50] 3 (some [x19])) (fun x20 =>
 optK (rdBin P H .neq 3 false (some x17) (some x20)) (fun x21 =>
 bvK x21 (fun b22 => .jump (l31_6 (eptrV x0) (eptrV a1) b22 H nx)) .bad) .bad) .bad) .bad) .bad) .bad) .bad) .bad)) .bad) .bad) .bad) .bad) .bad) .bad) .bad) .bad)) .bad) .bad) .bad) .bad) .bad) .bad))) := by kernel_rfl
theorem q31_6 (t2 t3 : Value) (t29 : Bool) (H : T OB) (nx : Nat) : evT P pl (l31_6 t2 t3 t29 H nx) =
 bK t29
 (.ret ⟨.ret (.bool false), false, H, nx⟩)
 (.jump (l31_11 t2 t3 (.int .i64 0) H nx)) := by kernel_rfl
theorem q31_11 (t2 t3 t5 : Value) (H : T OB) (nx : Nat) : evT P pl (l31_11 t2 t3 t5 H nx) =
 optK (rdFieldAddr P 52 (some t2) 0) (fun x0 =>
 optK (rdLoad P H 49 (some x0)) (fun x1 =>
 optK (rdLen P #[49] 3 (some [x1])) (fun x2 =>
 optK (rdBin P H .lss 3 false (some t5) (some x2)) (fun x3 =>
 bvK x3 (fun b4 => bK b4
 (optK (rdFieldAddr P 52 (some t2) 0) (fun x5 =>
  optK (rdLoad P H 49 (some x5)) (fun x6 =>
  optK (rdIndexAddr P 49 (some x6) (some t5)) (fun x7 =>
  optK (rdLoad P H 9 (some x7)) (fun x8 =>
  optK (rdFieldAddr P 52 (some t3) 0) (fun x9 =>
  optK (rdLoad P H 49 (some x9)) (fun x10 =>
  optK (rdIndexAddr P 49 (some x10) (some t5)) (fun x11 =>
  optK (rdLoad P H 9 (some x11)) (fun x12 =>
  optK (rdBin P H .neq 9 false (some x8) (some x12)) (fun x13 =>
  bvK x13 (fun b14 => bK b14
 (.ret ⟨.ret (.bool false), false, H, nx⟩)
 (optK (rdBin P H .add 3 true (some t5) (some (.int .i64 1))) (fun x15 =>
  .jump (l31_11 t2 t3 x15 H nx)) .bad)) .bad) .bad) .bad) .bad) .bad) .bad) .bad) .bad) .bad) .bad)
 (.jump (l31_21 t2 t3 (.int .i64 0) H nx))) .bad) .bad) .bad) .bad) .bad := by kernel_rfl
theorem q31_21 (t2 t3 t6 : Value) (H : T OB) (nx : Nat) : evT P pl (l31_21 t2 t3 t6 H nx) =
 optK (rdFieldAddr P 52 (some t2) 2) (fun x0 =>
 optK (rdLoad P H 50 (some x0)) (fun x1 =>
 optK (rdLen P #[50] 3 (some [x1])) (fun x2 =>
 optK (rdBin P H .lss 3 false (some t6) (some x2)) (fun x3 =>
 bvK x3 (fun b4 => bK b4
 (optK (rdFieldAddr P 52 (some t2) 2) (fun x5 =>
  optK (rdLoad P H 50 (some x5)) (fun x6 =>
  optK (rdIndexAddr P 50 (some x6) (some t6)) (fun x7 =>
  optK (rdLoad P H 55 (some x7)) (fun x8 =>
  optK (rdFieldAddr P 52 (some t3) 2) (fun x9 =>
  optK (rdLoad P H 50 (some x9)) (fun x10 =>
  optK (rdIndexAddr P 50 (some x10) (some t6)) (fun x11 =>
  optK (rdLoad P H 55 (some x11)) (fun x12 =>
  callQ (.call 30 [x8, x12] false none H nx) (fun x13 H nx =>
  bvK x13 (fun b14 => optK (unV P .not (some (.bool b14))) (fun x15 =>
  bvK x15 (fun b16 => bK b16
 (.ret ⟨.ret (.bool false), false, H, nx⟩)
 (optK (rdBin P H .add 3 true (some t6) (some (.int .i64 1))) (fun x17 =>
  .jump (l31_21 t2 t3 x17 H nx)) .bad)) .bad) .bad) .bad) panK) .bad) .bad) .bad) .bad) .bad) .bad) .bad) .bad)
 (.ret ⟨.ret (.bool true), false, H, nx⟩)) .bad) .bad) .bad) .bad) .bad := by kernel_rfl
end
end Go.Proofs.YthjhonhhbddhkaaGreatDoor
/- What functions of the program say, as trees. -/
namespace Go.Proofs.YthjhonhhbddhkaaGreatDoor
open Go.Ev Go.RowKit
noncomputable section
set_option linter.unusedVariables false
set_option maxHeartbeats 8000000
def l32_11 (t0 t1 t5 : Value) (H : T OB) (nx : Nat) : Cfg := .at ⟨32, 27, false, [], none, false⟩ (tmOf [(0, t0), (1, t1), (5, t5)]) (todoOf P 32 11) H nx
theorem q32 (a0 a1 : Value) (H : T OB) (nx : Nat) : evT P pl (.call 32 [a0, a1] false none H nx) =
 optK (rdLen P #[42] 3 (some [a0])) (fun x0 =>
 optK (rdLen P #[42] 3 (some [a1])) (fun x1 =>
 optK (rdBin P H .neq 3 false (some x0) (some x1)) (fun x2 =>
 bvK x2 (fun b3 => bK b3
 (.ret ⟨.ret (.bool false), false, H, nx⟩)
 (.jump (l32_11 a0 a1 (.int .i64 0) H nx))) .bad) .bad) .bad) .bad := by kernel_rfl
theorem q32_11 (t0 t1 t5 : Value) (H : T OB) (nx : Nat) : evT P pl (l32_11 t0 t1 t5 H nx) =
 optK (rdLen P #[42] 3 (some [t0])) (fun x0 =>
 optK (rdBin P H .lss 3 false (some t5) (some x0)) (fun x1 =>
 bvK x1 (fun b2 => bK b2
 (optK (rdIndexAddr P 42 (some t0) (some t5)) (fun x3 =>
  optK (rdLoad P H 47 (some x3)) (fun x4 =>
  optK (rdIndexAddr P 42 (some t1) (some t5)) (fun x5 =>
  optK (rdLoad P H 47 (some x5)) (fun x6 =>
  callQ (.call 29 [x4, x6] false none H nx) (fun x7 H nx =>
  bvK x7 (fun b8 => optK (unV P .not (some (.bool b8))) (fun x9 =>
  bvK x9 (fun b10 => bK b10
 (.ret ⟨.ret (.bool false), false, H, nx⟩)
 (optK (rdBin P H .add 3 true (some t5) (some (.int .i64 1))) (fun x11 =>
  .jump (l32_11 t0 t1 x11 H nx)) .bad)) .bad) .bad) .bad) panK) .bad) .bad) .bad) .bad)
 (.ret ⟨.ret (.bool true), false, H, nx⟩)) .bad) .bad) .bad := by kernel_rfl
def l33_26 (t1 : Value) (t66 : Bool) (H : T OB) (nx : Nat) : Cfg := .at ⟨33, 135, false, [], none, false⟩ (tmOf [(1, t1), (66, .bool t66)]) (todoOf P 33 26) H nx
def l33_46 (t1 : Value) (t90 : Bool) (H : T OB) (nx : Nat) : Cfg := .at ⟨33, 135, false, [], none, false⟩ (tmOf [(1, t1), (90, .bool t90)]) (todoOf P 33 46) H nx
def l33_31 (t1 t3 : Value) (H : T OB) (nx : Nat) : Cfg := .at ⟨33, 135, false, [], none, false⟩ (tmOf [(1, t1), (3, t3)]) (todoOf P 33 31) H nx
def l33_48 (t1 : Value) (t110 : Bool) (H : T OB) (nx : Nat) : Cfg := .at ⟨33, 135, false, [], none, false⟩ (tmOf [(1, t1), (110, .bool t110)]) (todoOf P 33 48) H nx
def l33_36 (t1 t3 : Value) (t86 : Bool) (H : T OB) (nx : Nat) : Cfg := .at ⟨33, 135, false, [], none, false⟩ (tmOf [(1, t1), (3, t3), (86, .bool t86)]) (todoOf P 33 36) H nx
def l33_53 (t1 t4 : Value) (H : T OB) (nx : Nat) : Cfg := .at ⟨33, 135, false, [], none, false⟩ (tmOf [(1, t1), (4, t4)]) (todoOf P 33 53) H nx
theorem q33 (a0 : Value) (H : T OB) (nx : Nat) : evT P pl (.call 33 [a0] false none H nx) =
 natF (Nat.succ nx) (fun nx =>
 optK (rdFieldAddr P 31 (some (eptrV a0)) 0) (fun x0 =>
 optK (rdLoad P H 3 (some x0)) (fun x1 =>
 optK (rdBin P H .eql 3 true (some x1) (some (.int .i64 0))) (fun x2 =>
 bvK x2 (fun b3 => bK b3
 (optK (rdFieldAddr P 31 (some (eptrV a0)) 1) (fun x4 =>
  optK (rdLoad P H 9 (some x4)) (fun x5 =>
  optK (rdBin P H .eql 9 true (some x5) (some (.string ⟨⟨[]⟩⟩))) (fun x6 =>
  bvK x6 (fun b7 => bK b7 (optK (rdFieldAddr P 31 (some (eptrV a0)) 2) (fun x8 =>
  optK (rdLoad P H 2 (some x8)) (fun x9 =>
  optK (rdBin P H .eql 2 true (some x9) (some (.int .i64 0))) (fun x10 =>
  bvK x10 (fun b11 => .ret ⟨.ret (.bool b11), false, H, nx⟩) .bad) .bad) .bad) .bad) (.ret ⟨.ret (.bool false), false, H, nx⟩)) .bad) .bad) .bad) .bad)
 (optK (rdBin P H .eql 3 true (some x1) (some (.int .i64 1))) (fun x12 =>
  bvK x12 (fun b13 => bK b13
 (optK (rdFieldAddr P 31 (some (eptrV a0)) 1) (fun x14 =>
  optK (rdLoad P H 9 (some x14)) (fun x15 =>
  optK (rdBin P H .eql 9 true (some x15) (some (.string ⟨⟨[]⟩⟩))) (fun x16 =>
  bvK x16 (fun b17 => bK b17 (optK (rdFieldAddr P 31 (some (eptrV a0)) 2) (fun x18 =>
  optK (rdLoad P H 2 (some x18)) (fun x19 =>
  optK (rdBin P H .geq 2 true (some x19) (some (.int .i64 0))) (fun x20 =>
  bvK x20 (fun b21 => bK b21 (optK (rdFieldAddr P 31 (some (eptrV a0)) 2) (fun x22 =>
  optK (rdLoad P H 2 (some x22)) (fun x23 =>
  optK (rdBin P H .leq 2 true (some x23) (some (.int .i64 4611686018427387903))) (fun x24 =>
  bvK x24 (fun b25 => .ret ⟨.ret (.bool b25), false, H, nx⟩) .bad) .bad) .bad) .bad) (.ret ⟨.ret (.bool false), false, H, nx⟩)) .bad) .bad) .bad) .bad) (.ret ⟨.ret (.bool false), false, H, nx⟩)) .bad) .bad) .bad) .bad)
 (optK (rdBin P H .eql 3 true (some x1) (some (.int .i64 2))) (fun x26 =>
  bvK x26 (fun b27 => bK b27
 (optK (rdFieldAddr P 31 (some (eptrV a0)) 2) (fun x28 =>
  optK (rdLoad P H 2 (some x28)) (fun x29 =>
  optK (rdBin P H .eql 2 true (some x29) (some (.int .i64 0))) (fun x30 =>
  bvK x30 (fun b31 => .ret ⟨.ret (.bool b31), false, H, nx⟩) .bad) .bad) .bad) .bad)
 (optK (rdBin P H .eql 3 true (some x1) (some (.int .i64 7))) (fun x32 =>
  bvK x32 (fun b33 => bK b33
 (optK (rdFieldAddr P 31 (some (eptrV a0)) 2) (fun x34 =>
  optK (rdLoad P H 2 (some x34)) (fun x35 =>
  optK (rdBin P H .eql 2 true (some x35) (some (.int .i64 0))) (fun x36 =>
  bvK x36 (fun b37 => bK b37 (optK (rdSlice P H 99 (some (.pointer (some ⟨0, 0, none⟩))) (some none) (some none) (some none)) (fun x38 =>
  optK (rdFieldAddr P 31 (some (eptrV a0)) 1) (fun x39 =>
  optK (rdLoad P H 9 (some x39)) (fun x40 =>
  callQ (.call 54 [x38, x40] false none H nx) (fun x41 H nx =>
  bvK x41 (fun b42 => .ret ⟨.ret (.bool b42), false, H, nx⟩) .bad) panK) .bad) .bad) .bad) (.ret ⟨.ret (.bool false), false, H, nx⟩)) .bad) .bad) .bad) .bad)
 (optK (rdBin P H .eql 3 true (some x1) (some (.int .i64 5))) (fun x43 =>
  bvK x43 (fun b44 => bK b44
 (optK (rdFieldAddr P 31 (some (eptrV a0)) 1) (fun x45 =>
  optK (rdLoad P H 9 (some x45)) (fun x46 =>
  optK (rdLen P #[9] 3 (some [x46])) (fun x47 =>
  optK (rdBin P H .lss 3 true (some x47) (some (.int .i64 2))) (fun x48 =>
  bvK x48 (fun b49 => bK b49 (.jump (l33_26 (eptrV a0) true H nx)) (optK (rdFieldAddr P 31 (some (eptrV a0)) 1) (fun x50 =>
  optK (rdLoad P H 9 (some x50)) (fun x51 =>
  optK (rdIndex P 9 (some x51) (some (.int .i64 0))) (fun x52 =>
  optK (rdBin P H .neq 5 true (some x52) (some (.int .u8 39))) (fun x53 =>
  bvK x53 (fun b54 => bK b54 (.jump (l33_26 (eptrV a0) true H nx)) (optK (rdFieldAddr P 31 (some (eptrV a0)) 1) (fun x55 =>
  optK (rdLoad P H 9 (some x55)) (fun x56 =>
  optK (rdIndex P 9 (some x56) (some (.int .i64 1))) (fun x57 =>
  callQ (.call 55 [x57] false none H nx) (fun x58 H nx =>
  bvK x58 (fun b59 => optK (unV P .not (some (.bool b59))) (fun x60 =>
  bvK x60 (fun b61 => .jump (l33_26 (eptrV a0) b61 H nx)) .bad) .bad) .bad) panK) .bad) .bad) .bad)) .bad) .bad) .bad) .bad) .bad)) .bad) .bad) .bad) .bad) .bad)
 (optK (rdBin P H .eql 3 true (some x1) (some (.int .i64 3))) (fun x62 =>
  bvK x62 (fun b63 => bK b63
 (.jump (l33_46 (eptrV a0) b63 H nx))
 (optK (rdBin P H .eql 3 true (some x1) (some (.int .i64 4))) (fun x64 =>
  bvK x64 (fun b65 => bK b65
 (.jump (l33_46 (eptrV a0) b65 H nx))
 (optK (rdBin P H .eql 3 true (some x1) (some (.int .i64 6))) (fun x66 =>
  bvK x66 (fun b67 => .jump (l33_46 (eptrV a0) b67 H nx)) .bad) .bad)) .bad) .bad)) .bad) .bad)) .bad) .bad)) .bad) .bad)) .bad) .bad)) .bad) .bad)) .bad) .bad) .bad) .bad) := by kernel_rfl
theorem q33_26 (t1 : Value) (t66 : Bool) (H : T OB) (nx : Nat) : evT P pl (l33_26 t1 t66 H nx) =
 bK t66
 (.ret ⟨.ret (.bool false), false, H, nx⟩)
 (.jump (l33_31 t1 (.int .i64 2) H nx)) := by kernel_rfl
theorem q33_46 (t1 : Value) (t90 : Bool) (H : T OB) (nx : Nat) : evT P pl (l33_46 t1 t90 H nx) =
 bK t90
 (optK (rdFieldAddr P 31 (some t1) 1) (fun x0 =>
  optK (rdLoad P H 9 (some x0)) (fun x1 =>
  optK (rdBin P H .eql 9 true (some x1) (some (.string ⟨⟨[]⟩⟩))) (fun x2 =>
  bvK x2 (fun b3 => bK b3 (.jump (l33_48 t1 true H nx)) (optK (rdFieldAddr P 31 (some t1) 1) (fun x4 =>
  optK (rdLoad P H 9 (some x4)) (fun x5 =>
  optK (rdIndex P 9 (some x5) (some (.int .i64 0))) (fun x6 =>
  callQ (.call 55 [x6] false none H nx) (fun x7 H nx =>
  bvK x7 (fun b8 => optK (unV P .not (some (.bool b8))) (fun x9 =>
  bvK x9 (fun b10 => bK b10 (optK (rdFieldAddr P 31 (some t1) 1) (fun x11 =>
  optK (rdLoad P H 9 (some x11)) (fun x12 =>
  optK (rdIndex P 9 (some x12) (some (.int .i64 0))) (fun x13 =>
  callQ (.call 57 [x13] false none H nx) (fun x14 H nx =>
  bvK x14 (fun b15 => optK (unV P .not (some (.bool b15))) (fun x16 =>
  bvK x16 (fun b17 => .jump (l33_48 t1 b17 H nx)) .bad) .bad) .bad) panK) .bad) .bad) .bad) (.jump (l33_48 t1 false H nx))) .bad) .bad) .bad) panK) .bad) .bad) .bad)) .bad) .bad) .bad) .bad)
 (.ret ⟨.ret (.bool false), false, H, nx⟩) := by kernel_rfl
theorem q33_31 (t1 t3 : Value) (H : T OB) (nx : Nat) : evT P pl (l33_31 t1 t3 H nx) =
 optK (rdFieldAddr P 31 (some t1) 1) (fun x0 =>
 optK (rdLoad P H 9 (some x0)) (fun x1 =>
 optK (rdLen P #[9] 3 (some [x1])) (fun x2 =>
 optK (rdBin P H .lss 3 false (some t3) (some x2)) (fun x3 =>
 bvK x3 (fun b4 => bK b4
 (optK (rdFieldAddr P 31 (some t1) 1) (fun x5 =>
  optK (rdLoad P H 9 (some x5)) (fun x6 =>
  optK (rdIndex P 9 (some x6) (some t3)) (fun x7 =>
  optK (rdBin P H .eql 5 true (some x7) (some (.int .u8 39))) (fun x8 =>
  bvK x8 (fun b9 => bK b9 (.jump (l33_36 t1 t3 true H nx)) (optK (rdFieldAddr P 31 (some t1) 1) (fun x10 =>
  optK (rdLoad P H 9 (some x10)) (fun x11 =>
  optK (rdIndex P 9 (some x11) (some t3)) (fun x12 =>
  callQ (.call 56 [x12] false none H nx) (fun x13 H nx =>
  bvK x13 (fun b14 => optK (unV P .not (some (.bool b14))) (fun x15 =>
  bvK x15 (fun b16 => .jump (l33_36 t1 t3 b16 H nx)) .bad) .bad) .bad) panK) .bad) .bad) .bad)) .bad) .bad) .bad) .bad) .bad)
 (optK (rdFieldAddr P 31 (some t1) 2) (fun x17 =>
  optK (rdLoad P H 2 (some x17)) (fun x18 =>
  optK (rdBin P H .eql 2 true (some x18) (some (.int .i64 0))) (fun x19 =>
  bvK x19 (fun b20 => .ret ⟨.ret (.bool b20), false, H, nx⟩) .bad) .bad) .bad) .bad)) .bad) .bad) .bad) .bad) .bad := by kernel_rfl
theorem q33_48 (t1 : Value) (t110 : Bool) (H : T OB) (nx : Nat) : evT P pl (l33_48 t1 t110 H nx) =
 bK t110
 (.ret ⟨.ret (.bool false), false, H, nx⟩)
 (.jump (l33_53 t1 (.int .i64 1) H nx)) := by kernel_rfl
theorem q33_36 (t1 t3 : Value) (t86 : Bool) (H : T OB) (nx : Nat) : evT P pl (l33_36 t1 t3 t86 H nx) =
 bK t86
 (.ret ⟨.ret (.bool false), false, H, nx⟩)
 (optK (rdBin P H .add 3 true (some t3) (some (.int .i64 1))) (fun x0 =>
  .jump (l33_31 t1 x0 H nx)) .bad) := by kernel_rfl
theorem q33_53 (t1 t4 : Value) (H : T OB) (nx : Nat) : evT P pl (l33_53 t1 t4 H nx) =
 optK (rdFieldAddr P 31 (some t1) 1) (fun x0 =>
 optK (rdLoad P H 9 (some x0)) (fun x1 =>
 optK (rdLen P #[9] 3 (some [x1])) (fun x2 =>
 optK (rdBin P H .lss 3 false (some t4) (some x2)) (fun x3 =>
 bvK x3 (fun b4 => bK b4
 (optK (rdFieldAddr P 31 (some t1) 1) (fun x5 =>
  optK (rdLoad P H 9 (some x5)) (fun x6 =>
  optK (rdIndex P 9 (some x6) (some t4)) (fun x7 =>
  callQ (.call 56 [x7] false none H nx) (fun x8 H nx =>
  bvK x8 (fun b9 => optK (unV P .not (some (.bool b9))) (fun x10 =>
  bvK x10 (fun b11 => bK b11
 (.ret ⟨.ret (.bool false), false, H, nx⟩)
 (optK (rdBin P H .add 3 true (some t4) (some (.int .i64 1))) (fun x12 =>
  .jump (l33_53 t1 x12 H nx)) .bad)) .bad) .bad) .bad) panK) .bad) .bad) .bad)
 (optK (rdFieldAddr P 31 (some t1) 2) (fun x13 =>
  optK (rdLoad P H 2 (some x13)) (fun x14 =>
  optK (rdBin P H .eql 2 true (some x14) (some (.int .i64 0))) (fun x15 =>
  bvK x15 (fun b16 => bK b16 (optK (rdFieldAddr P 31 (some t1) 1) (fun x17 =>
  optK (rdLoad P H 9 (some x17)) (fun x18 =>
  optK (rdFieldAddr P 31 (some t1) 0) (fun x19 =>
  optK (rdLoad P H 3 (some x19)) (fun x20 =>
  callQ (.call 58 [x18] false none H nx) (fun x21 H nx =>
  bK (optK (rdLoad P H 3 (some x19)) (fun u => vEq u x20) false && true) (optK (rdBin P H .eql 3 false (some x21) (some x20)) (fun x22 =>
  bvK x22 (fun b23 => .ret ⟨.ret (.bool b23), false, H, nx⟩) .bad) .bad) .bad) panK) .bad) .bad) .bad) .bad) (bK (true && true) (.ret ⟨.ret (.bool false), false, H, nx⟩) .bad)) .bad) .bad) .bad) .bad)) .bad) .bad) .bad) .bad) .bad := by kernel_rfl
def l36_10 (t1 : Value) (t28 : Bool) (H : T OB) (nx : Nat) : Cfg := .at ⟨36, 57, false, [], none, false⟩ (tmOf [(1, t1), (28, .bool t28)]) (todoOf P 36 10) H nx
theorem q36 (a0 : Value) (H : T OB) (nx : Nat) : evT P pl (.call 36 [a0] false none H nx) =
 natF (Nat.succ nx) (fun nx =>
 optK (rdFieldAddr P 31 (some (eptrV a0)) 0) (fun x0 =>
 optK (rdLoad P H 3 (some x0)) (fun x1 =>
 optK (rdBin P H .eql 3 true (some x1) (some (.int .i64 0))) (fun x2 =>
 bvK x2 (fun b3 => bK b3
 (optK (rdFieldAddr P 31 (some (eptrV a0)) 1) (fun x4 =>
  optK (rdLoad P H 9 (some x4)) (fun x5 =>
  optK (rdBin P H .eql 9 true (some x5) (some (.string ⟨⟨[]⟩⟩))) (fun x6 =>
  bvK x6 (fun b7 => bK b7 (optK (rdFieldAddr P 31 (some (eptrV a0)) 2) (fun x8 =>
  optK (rdLoad P H 2 (some x8)) (fun x9 =>
  optK (rdBin P H .eql 2 true (some x9) (some (.int .i64 0))) (fun x10 =>
  bvK x10 (fun b11 => .ret ⟨.ret (.bool b11), false, H, nx⟩) .bad) .bad) .bad) .bad) (.ret ⟨.ret (.bool false), false, H, nx⟩)) .bad) .bad) .bad) .bad)
 (optK (rdFieldAddr P 31 (some (eptrV a0)) 0) (fun x12 =>
  optK (rdLoad P H 3 (some x12)) (fun x13 =>
  optK (rdBin P H .eql 3 true (some x13) (some (.int .i64 1))) (fun x14 =>
  bvK x14 (fun b15 => bK b15 (optK (rdFieldAddr P 31 (some (eptrV a0)) 2) (fun x16 =>
  optK (rdLoad P H 2 (some x16)) (fun x17 =>
  optK (rdBin P H .lss 2 true (some x17) (some (.int .i64 0))) (fun x18 =>
  bvK x18 (fun b19 => bK b19 (.jump (l36_10 (eptrV a0) true H nx)) (optK (rdFieldAddr P 31 (some (eptrV a0)) 2) (fun x20 =>
  optK (rdLoad P H 2 (some x20)) (fun x21 =>
  optK (rdBin P H .gtr 2 true (some x21) (some (.int .i64 4611686018427387903))) (fun x22 =>
  bvK x22 (fun b23 => .jump (l36_10 (eptrV a0) b23 H nx)) .bad) .bad) .bad) .bad)) .bad) .bad) .bad) .bad) (.jump (l36_10 (eptrV a0) false H nx))) .bad) .bad) .bad) .bad)) .bad) .bad) .bad) .bad) := by kernel_rfl
theorem q36_10 (t1 : Value) (t28 : Bool) (H : T OB) (nx : Nat) : evT P pl (l36_10 t1 t28 H nx) =
 bK t28
 (.ret ⟨.ret (.bool false), false, H, nx⟩)
 (optK (rdLoad P H 31 (some t1)) (fun x0 =>
  callQ (.call 64 [x0] false none H nx) (fun x1 H nx =>
  callQ (.call 63 [x1] false none H nx) (fun x2 H nx =>
  optK (rdExtract (some x2) 0) (fun x3 =>
  optK (rdExtract (some x2) 1) (fun x4 =>
  bvK x4 (fun b5 => effQ (efAlloc P H nx 31) (fun x6 H nx =>
  frSt P H nx 31 (some x6) x3 (fun H nx =>
  bK b5 (optK (rdFieldAddr P 31 (some (eptrV x3)) 0) (fun x7 =>
  optK (rdLoad P H 3 (some x7)) (fun x8 =>
  optK (rdFieldAddr P 31 (some t1) 0) (fun x9 =>
  optK (rdLoad P H 3 (some x9)) (fun x10 =>
  optK (rdBin P H .eql 3 false (some x8) (some x10)) (fun x11 =>
  bvK x11 (fun b12 => bK b12 (optK (rdFieldAddr P 31 (some (eptrV x3)) 1) (fun x13 =>
  optK (rdLoad P H 9 (some x13)) (fun x14 =>
  optK (rdFieldAddr P 31 (some t1) 1) (fun x15 =>
  optK (rdLoad P H 9 (some x15)) (fun x16 =>
  optK (rdBin P H .eql 9 false (some x14) (some x16)) (fun x17 =>
  bvK x17 (fun b18 => bK b18 (optK (rdFieldAddr P 31 (some (eptrV x3)) 2) (fun x19 =>
  optK (rdLoad P H 2 (some x19)) (fun x20 =>
  optK (rdFieldAddr P 31 (some t1) 2) (fun x21 =>
  optK (rdLoad P H 2 (some x21)) (fun x22 =>
  optK (rdBin P H .eql 2 false (some x20) (some x22)) (fun x23 =>
  bvK x23 (fun b24 => .ret ⟨.ret (.bool b24), false, H, nx⟩) .bad) .bad) .bad) .bad) .bad) .bad) (.ret ⟨.ret (.bool false), false, H, nx⟩)) .bad) .bad) .bad) .bad) .bad) .bad) (.ret ⟨.ret (.bool false), false, H, nx⟩)) .bad) .bad) .bad) .bad) .bad) .bad) (.ret ⟨.ret (.bool false), false, H, nx⟩)))) .bad) .bad) .bad) panK) panK) .bad) := by kernel_rfl
def l41_9 (t0 t1 t5 t6 : Value) (H : T OB) (nx : Nat) : Cfg := .at ⟨41, 173, false, [], none, false⟩ (tmOf [(0, t0), (1, t1), (5, t5), (6, t6)]) (todoOf P 41 9) H nx
def l41_21 (t0 t1 t5 t6 t7 t8 : Value) (H : T OB) (nx : Nat) : Cfg := .at ⟨41, 173, false, [], none, false⟩ (tmOf [(0, t0), (1, t1), (5, t5), (6, t6), (7, t7), (8, t8)]) (todoOf P 41 21) H nx
def l41_29 (t0 t1 t5 t6 t7 t8 t9 : Value) (H : T OB) (nx : Nat) : Cfg := .at ⟨41, 173, false, [], none, false⟩ (tmOf [(0, t0), (1, t1), (5, t5), (6, t6), (7, t7), (8, t8), (9, t9)]) (todoOf P 41 29) H nx
def l41_37 (t0 t1 t5 t6 t7 t10 : Value) (H : T OB) (nx : Nat) : Cfg := .at ⟨41, 173, false, [], none, false⟩ (tmOf [(0, t0), (1, t1), (5, t5), (6, t6), (7, t7), (10, t10)]) (todoOf P 41 37) H nx
def l41_47 (t0 t1 t5 t6 t7 t11 : Value) (H : T OB) (nx : Nat) : Cfg := .at ⟨41, 173, false, [], none, false⟩ (tmOf [(0, t0), (1, t1), (5, t5), (6, t6), (7, t7), (11, t11)]) (todoOf P 41 47) H nx
theorem q41 (a0 a1 : Value) (H : T OB) (nx : Nat) : evT P pl (.call 41 [a0, a1] false none H nx) =
 .jump (l41_9 a0 a1 (.int .i64 0) (.int .i64 0) H nx) := by kernel_rfl
theorem q41_9 (t0 t1 t5 t6 : Value) (H : T OB) (nx : Nat) : evT P pl (l41_9 t0 t1 t5 t6 H nx) =
 optK (rdLen P #[24] 3 (some [t0])) (fun x0 =>
 optK (rdBin P H .lss 3 false (some t6) (some x0)) (fun x1 =>
 bvK x1 (fun b2 => bK b2 (optK (rdBin P H .leq 3 false (some t5) (some t1)) (fun x3 =>
 bvK x3 (fun b4 => bK b4
 (optK (rdIndexAddr P 24 (some t0) (some t6)) (fun x5 =>
  optK (rdLoad P H 57 (some x5)) (fun x6 =>
  effQ (efAlloc P H nx 57) (fun x7 H nx =>
  frSt P H nx 57 (some x7) x6 (fun H nx =>
  optK (rdBin P H .add 3 true (some t5) (some (.int .i64 1))) (fun x8 =>
  optK (rdFieldAddr P 57 (some (eptrV x6)) 1) (fun x9 =>
  optK (rdLoad P H 47 (some x9)) (fun x10 =>
  optK (rdBin P H .sub 3 false (some t1) (some t5)) (fun x11 =>
  callQ (.call 72 [x10, x11] false none H nx) (fun x12 H nx =>
  optK (rdBin P H .add 3 false (some x8) (some x12)) (fun x13 =>
  optK (rdFieldAddr P 57 (some (eptrV x6)) 2) (fun x14 =>
  optK (rdLoad P H 44 (some x14)) (fun x15 =>
  optK (rdBin P H .sub 3 false (some t1) (some x13)) (fun x16 =>
  callQ (.call 73 [x15, x16] false none H nx) (fun x17 H nx =>
  optK (rdBin P H .add 3 false (some x13) (some x17)) (fun x18 =>
  .jump (l41_21 t0 t1 x18 t6 (eptrV x6) (.int .i64 0) H nx)) .bad) panK) .bad) .bad) .bad) .bad) panK) .bad) .bad) .bad) .bad))) .bad) .bad)
 (.ret ⟨.ret t5, false, H, nx⟩)) .bad) .bad) (.ret ⟨.ret t5, false, H, nx⟩)) .bad) .bad) .bad := by kernel_rfl
theorem q41_21 (t0 t1 t5 t6 t7 t8 : Value) (H : T OB) (nx : Nat) : evT P pl (l41_21 t0 t1 t5 t6 t7 t8 H nx) =
 optK (rdFieldAddr P 57 (some t7) 3) (fun x0 =>
 optK (rdLoad P H 48 (some x0)) (fun x1 =>
 optK (rdLen P #[48] 3 (some [x1])) (fun x2 =>
 optK (rdBin P H .lss 3 false (some t8) (some x2)) (fun x3 =>
 bvK x3 (fun b4 => bK b4 (optK (rdBin P H .leq 3 false (some t5) (some t1)) (fun x5 =>
 bvK x5 (fun b6 => bK b6
 (optK (rdBin P H .add 3 true (some t5) (some (.int .i64 1))) (fun x7 =>
  optK (rdFieldAddr P 57 (some t7) 3) (fun x8 =>
  optK (rdLoad P H 48 (some x8)) (fun x9 =>
  optK (rdIndexAddr P 48 (some x9) (some t8)) (fun x10 =>
  optK (rdFieldAddr P 65 (some x10) 0) (fun x11 =>
  optK (rdLoad P H 9 (some x11)) (fun x12 =>
  optK (rdLen P #[9] 3 (some [x12])) (fun x13 =>
  optK (rdBin P H .quo 3 true (some x13) (some (.int .i64 8))) (fun x14 =>
  optK (rdBin P H .add 3 false (some x7) (some x14)) (fun x15 =>
  optK (rdFieldAddr P 57 (some t7) 3) (fun x16 =>
  optK (rdLoad P H 48 (some x16)) (fun x17 =>
  optK (rdIndexAddr P 48 (some x17) (some t8)) (fun x18 =>
  optK (rdFieldAddr P 65 (some x18) 2) (fun x19 =>
  optK (rdLoad P H 44 (some x19)) (fun x20 =>
  optK (rdBin P H .sub 3 false (some t1) (some t5)) (fun x21 =>
  callQ (.call 73 [x20, x21] false none H nx) (fun x22 H nx =>
  bK (optK (rdBin P H .add 3 false (some x7) (some x14)) (fun u => vEq u x15) false && (optK (rdBin P H .quo 3 true (some x13) (some (.int .i64 8))) (fun u => vEq u x14) false && (optK (rdLoad P H 9 (some x11)) (fun u => vEq u x12) false && (optK (rdLoad P H 48 (some x8)) (fun u => vEq u x9) false && (optK (rdBin P H .add 3 true (some t5) (some (.int .i64 1))) (fun u => vEq u x7) false && true))))) (optK (rdBin P H .add 3 false (some x15) (some x22)) (fun x23 =>
  .jump (l41_29 t0 t1 x23 t6 t7 t8 (.int .i64 0) H nx)) .bad) .bad) panK) .bad) .bad) .bad) .bad) .bad) .bad) .bad) .bad) .bad) .bad) .bad) .bad) .bad) .bad) .bad)
 (.jump (l41_37 t0 t1 t5 t6 t7 (.int .i64 0) H nx))) .bad) .bad) (.jump (l41_37 t0 t1 t5 t6 t7 (.int .i64 0) H nx))) .bad) .bad) .bad) .bad) .bad := by kernel_rfl
theorem q41_29 (t0 t1 t5 t6 t7 t8 t9 : Value) (H : T OB) (nx : Nat) : evT P pl (l41_29 t0 t1 t5 t6 t7 t8 t9 H nx) =
 optK (rdFieldAddr P 57 (some t7) 3) (fun x0 =>
 optK (rdLoad P H 48 (some x0)) (fun x1 =>
 optK (rdIndexAddr P 48 (some x1) (some t8)) (fun x2 =>
 optK (rdFieldAddr P 65 (some x2) 1) (fun x3 =>
 optK (rdLoad P H 42 (some x3)) (fun x4 =>
 optK (rdLen P #[42] 3 (some [x4])) (fun x5 =>
 optK (rdBin P H .lss 3 false (some t9) (some x5)) (fun x6 =>
 bvK x6 (fun b7 => bK b7 (optK (rdBin P H .leq 3 false (some t5) (some t1)) (fun x8 =>
 bvK x8 (fun b9 => bK b9
 (optK (rdFieldAddr P 57 (some t7) 3) (fun x10 =>
  optK (rdLoad P H 48 (some x10)) (fun x11 =>
  optK (rdIndexAddr P 48 (some x11) (some t8)) (fun x12 =>
  optK (rdFieldAddr P 65 (some x12) 1) (fun x13 =>
  optK (rdLoad P H 42 (some x13)) (fun x14 =>
  optK (rdIndexAddr P 42 (some x14) (some t9)) (fun x15 =>
  optK (rdLoad P H 47 (some x15)) (fun x16 =>
  optK (rdBin P H .sub 3 false (some t1) (some t5)) (fun x17 =>
  callQ (.call 72 [x16, x17] false none H nx) (fun x18 H nx =>
  optK (rdBin P H .add 3 false (some t5) (some x18)) (fun x19 =>
  optK (rdBin P H .add 3 true (some t9) (some (.int .i64 1))) (fun x20 =>
  .jump (l41_29 t0 t1 x19 t6 t7 t8 x20 H nx)) .bad) .bad) panK) .bad) .bad) .bad) .bad) .bad) .bad) .bad) .bad)
 (optK (rdBin P H .add 3 true (some t8) (some (.int .i64 1))) (fun x21 =>
  .jump (l41_21 t0 t1 t5 t6 t7 x21 H nx)) .bad)) .bad) .bad) (optK (rdBin P H .add 3 true (some t8) (some (.int .i64 1))) (fun x22 =>
  .jump (l41_21 t0 t1 t5 t6 t7 x22 H nx)) .bad)) .bad) .bad) .bad) .bad) .bad) .bad) .bad) .bad := by kernel_rfl
theorem q41_37 (t0 t1 t5 t6 t7 t10 : Value) (H : T OB) (nx : Nat) : evT P pl (l41_37 t0 t1 t5 t6 t7 t10 H nx) =
 optK (rdFieldAddr P 57 (some t7) 4) (fun x0 =>
 optK (rdFieldAddr P 52 (some x0) 0) (fun x1 =>
 optK (rdLoad P H 49 (some x1)) (fun x2 =>
 optK (rdLen P #[49] 3 (some [x2])) (fun x3 =>
 optK (rdBin P H .lss 3 false (some t10) (some x3)) (fun x4 =>
 bvK x4 (fun b5 => bK b5 (optK (rdBin P H .leq 3 false (some t5) (some t1)) (fun x6 =>
 bvK x6 (fun b7 => bK b7
 (optK (rdBin P H .add 3 true (some t5) (some (.int .i64 1))) (fun x8 =>
  optK (rdFieldAddr P 57 (some t7) 4) (fun x9 =>
  optK (rdFieldAddr P 52 (some x9) 0) (fun x10 =>
  optK (rdLoad P H 49 (some x10)) (fun x11 =>
  optK (rdIndexAddr P 49 (some x11) (some t10)) (fun x12 =>
  optK (rdLoad P H 9 (some x12)) (fun x13 =>
  optK (rdLen P #[9] 3 (some [x13])) (fun x14 =>
  optK (rdBin P H .quo 3 true (some x14) (some (.int .i64 8))) (fun x15 =>
  optK (rdBin P H .add 3 false (some x8) (some x15)) (fun x16 =>
  optK (rdBin P H .add 3 true (some t10) (some (.int .i64 1))) (fun x17 =>
  .jump (l41_37 t0 t1 x16 t6 t7 x17 H nx)) .bad) .bad) .bad) .bad) .bad) .bad) .bad) .bad) .bad) .bad)
 (optK (rdFieldAddr P 57 (some t7) 4) (fun x18 =>
  optK (rdFieldAddr P 52 (some x18) 1) (fun x19 =>
  optK (rdLoad P H 9 (some x19)) (fun x20 =>
  optK (rdLen P #[9] 3 (some [x20])) (fun x21 =>
  optK (rdBin P H .quo 3 true (some x21) (some (.int .i64 8))) (fun x22 =>
  optK (rdBin P H .add 3 false (some t5) (some x22)) (fun x23 =>
  optK (rdFieldAddr P 57 (some t7) 5) (fun x24 =>
  optK (rdLoad P H 55 (some x24)) (fun x25 =>
  optK (rdBin P H .sub 3 false (some t1) (some t5)) (fun x26 =>
  callQ (.call 74 [x25, x26] false none H nx) (fun x27 H nx =>
  bK (optK (rdBin P H .add 3 false (some t5) (some x22)) (fun u => vEq u x23) false && (optK (rdBin P H .quo 3 true (some x21) (some (.int .i64 8))) (fun u => vEq u x22) false && (optK (rdLoad P H 9 (some x19)) (fun u => vEq u x20) false && true))) (optK (rdBin P H .add 3 false (some x23) (some x27)) (fun x28 =>
  .jump (l41_47 t0 t1 x28 t6 t7 (.int .i64 0) H nx)) .bad) .bad) panK) .bad) .bad) .bad) .bad) .bad) .bad) .bad) .bad) .bad)) .bad) .bad) (optK (rdFieldAddr P 57 (some t7) 4) (fun x29 =>
  optK (rdFieldAddr P 52 (some x29) 1) (fun x30 =>
  optK (rdLoad P H 9 (some x30)) (fun x31 =>
  optK (rdLen P #[9] 3 (some [x31])) (fun x32 =>
  optK (rdBin P H .quo 3 true (some x32) (some (.int .i64 8))) (fun x33 =>
  optK (rdBin P H .add 3 false (some t5) (some x33)) (fun x34 =>
  optK (rdFieldAddr P 57 (some t7) 5) (fun x35 =>
  optK (rdLoad P H 55 (some x35)) (fun x36 =>
  optK (rdBin P H .sub 3 false (some t1) (some t5)) (fun x37 =>
  callQ (.call 74 [x36, x37] false none H nx) (fun x38 H nx =>
  bK (optK (rdBin P H .add 3 false (some t5) (some x33)) (fun u => vEq u x34) false && (optK (rdBin P H .quo 3 true (some x32) (some (.int .i64 8))) (fun u => vEq u x33) false && (optK (rdLoad P H 9 (some x30)) (fun u => vEq u x31) false && true))) (optK (rdBin P H .add 3 false (some x34) (some x38)) (fun x39 =>
  .jump (l41_47 t0 t1 x39 t6 t7 (.int .i64 0) H nx)) .bad) .bad) panK) .bad) .bad) .bad) .bad) .bad) .bad) .bad) .bad) .bad)) .bad) .bad) .bad) .bad) .bad) .bad := by kernel_rfl
theorem q41_47 (t0 t1 t5 t6 t7 t11 : Value) (H : T OB) (nx : Nat) : evT P pl (l41_47 t0 t1 t5 t6 t7 t11 H nx) =
 optK (rdFieldAddr P 57 (some t7) 4) (fun x0 =>
 optK (rdFieldAddr P 52 (some x0) 2) (fun x1 =>
 optK (rdLoad P H 50 (some x1)) (fun x2 =>
 optK (rdLen P #[50] 3 (some [x2])) (fun x3 =>
 optK (rdBin P H .lss 3 false (some t11) (some x3)) (fun x4 =>
 bvK x4 (fun b5 => bK b5 (optK (rdBin P H .leq 3 false (some t5) (some t1)) (fun x6 =>
 bvK x6 (fun b7 => bK b7
 (optK (rdFieldAddr P 57 (some t7) 4) (fun x8 =>
  optK (rdFieldAddr P 52 (some x8) 2) (fun x9 =>
  optK (rdLoad P H 50 (some x9)) (fun x10 =>
  optK (rdIndexAddr P 50 (some x10) (some t11)) (fun x11 =>
  optK (rdLoad P H 55 (some x11)) (fun x12 =>
  optK (rdBin P H .sub 3 false (some t1) (some t5)) (fun x13 =>
  callQ (.call 74 [x12, x13] false none H nx) (fun x14 H nx =>
  optK (rdBin P H .add 3 false (some t5) (some x14)) (fun x15 =>
  optK (rdBin P H .add 3 true (some t11) (some (.int .i64 1))) (fun x16 =>
  .jump (l41_47 t0 t1 x15 t6 t7 x16 H nx)) .bad) .bad) panK) .bad) .bad) .bad) .bad) .bad) .bad)
 (optK (rdBin P H .add 3 true (some t6) (some (.int .i64 1))) (fun x17 =>
  .jump (l41_9 t0 t1 t5 x17 H nx)) .bad)) .bad) .bad) (optK (rdBin P H .add 3 true (some t6) (some (.int .i64 1))) (fun x18 =>
  .jump (l41_9 t0 t1 t5 x18 H nx)) .bad)) .bad) .bad) .bad) .bad) .bad) .bad := by kernel_rfl
def l42_9 (t4 t9 t10 t11 : Value) (H : T OB) (nx : Nat) : Cfg := .at ⟨42, 32, false, [], none, false⟩ (tmOf [(4, t4), (9, t9), (10, t10), (11, t11)]) (todoOf P 42 9) H nx
theorem q42 (a0 : Value) (H : T OB) (nx : Nat) : evT P pl (.call 42 [a0] false none H nx) =
 effQ (efBox H nx 116 (some (.agg ⟨[(.slice none 0 0), (.bool false)]⟩))) (fun x0 H nx =>
 optK (rdLen P #[24] 3 (some [a0])) (fun x1 =>
 .jump (l42_9 x0 a0 x1 (.int .i64 0) H nx)) .bad) := by kernel_rfl
theorem q42_9 (t4 t9 t10 t11 : Value) (H : T OB) (nx : Nat) : evT P pl (l42_9 t4 t9 t10 t11 H nx) =
 optK (rdBin P H .lss 3 false (some t11) (some t10)) (fun x0 =>
 bvK x0 (fun b1 => bK b1
 (optK (rdIndexAddr P 24 (some t9) (some t11)) (fun x2 =>
  optK (rdLoad P H 57 (some x2)) (fun x3 =>
  effQ (efAlloc P H nx 57) (fun x4 H nx =>
  frSt P H nx 57 (some x4) x3 (fun H nx =>
  optK (rdLoad P H 57 (some (eptrV x3))) (fun x5 =>
  callQ (.call 75 [t4, x5] false none H nx) (fun x6 H nx =>
  callQ (.call 77 [(.string ⟨⟨[59]⟩⟩)] false none H nx) (fun x7 H nx =>
  effQ (efBuildSlice P H nx 29 1 (some [(0, x7)])) (fun x8 H nx =>
  callQ (.call 76 [t4, x8] false none H nx) (fun x9 H nx =>
  optK (rdBin P H .add 3 true (some t11) (some (.int .i64 1))) (fun x10 =>
  .jump (l42_9 t4 t9 t10 x10 H nx)) .bad) panK)) panK) panK) .bad))) .bad) .bad)
 (optK (rdNil (some t4)) (fun x11 =>
  optK (rdFieldAddr P 116 (some x11) 0) (fun x12 =>
  optK (rdLoad P H 29 (some x12)) (fun x13 =>
  optK (rdNil (some t4)) (fun x14 =>
  optK (rdFieldAddr P 116 (some x14) 1) (fun x15 =>
  optK (rdLoad P H 4 (some x15)) (fun x16 =>
  bvK x16 (fun b17 => optK (unV P .not (some (.bool b17))) (fun x18 =>
  bvK x18 (fun b19 => .ret ⟨.ret (.tuple ⟨[x13, (.bool b19)]⟩), false, H, nx⟩) .bad) .bad) .bad) .bad) .bad) .bad) .bad) .bad) .bad)) .bad) .bad := by kernel_rfl
end
end Go.Proofs.YthjhonhhbddhkaaGreatDoor
/- What functions of the program say, as trees. -/
namespace Go.Proofs.YthjhonhhbddhkaaGreatDoor
open Go.Ev Go.RowKit
noncomputable section
set_option linter.unusedVariables false
set_option maxHeartbeats 8000000
def l43_9 (t4 t7 t8 t9 : Value) (H : T OB) (nx : Nat) : Cfg := .at ⟨43, 48, false, [], none, false⟩ (tmOf [(4, t4), (7, t7), (8, t8), (9, t9)]) (todoOf P 43 9) H nx
def l43_34 (t4 t7 t8 t9 : Value) (H : T OB) (nx : Nat) : Cfg := .at ⟨43, 48, false, [], none, false⟩ (tmOf [(4, t4), (7, t7), (8, t8), (9, t9)]) (todoOf P 43 34) H nx
def l43_22 (t4 t6 t7 t8 t9 : Value) (H : T OB) (nx : Nat) : Cfg := .at ⟨43, 48, false, [], none, false⟩ (tmOf [(4, t4), (6, t6), (7, t7), (8, t8), (9, t9)]) (todoOf P 43 22) H nx
theorem q43 (a0 : Value) (H : T OB) (nx : Nat) : evT P pl (.call 43 [a0] false none H nx) =
 frzV P 29 a0 H nx (fun x0 H nx =>
 optK (rdLen P #[29] 3 (some [x0])) (fun x1 =>
 .jump (l43_9 (.slice none 0 0) x0 x1 (.int .i64 0) H nx)) .bad) := by kernel_rfl
theorem q43_9 (t4 t7 t8 t9 : Value) (H : T OB) (nx : Nat) : evT P pl (l43_9 t4 t7 t8 t9 H nx) =
 optK (rdBin P H .lss 3 false (some t9) (some t8)) (fun x0 =>
 bvK x0 (fun b1 => bK b1
 (optK (rdIndexAddr P 29 (some t7) (some t9)) (fun x2 =>
  optK (rdLoad P H 31 (some x2)) (fun x3 =>
  effQ (efAlloc P H nx 31) (fun x4 H nx =>
  frSt P H nx 31 (some x4) x3 (fun H nx =>
  optK (rdLoad P H 31 (some (eptrV x3))) (fun x5 =>
  callQ (.call 33 [x5] false none H nx) (fun x6 H nx =>
  bvK x6 (fun b7 => optK (unV P .not (some (.bool b7))) (fun x8 =>
  bvK x8 (fun b9 => bK b9
 (.ret ⟨.ret (.tuple ⟨[(.string ⟨⟨[]⟩⟩), (.int .i64 1)]⟩), false, H, nx⟩)
 (optK (rdFieldAddr P 31 (some (eptrV x3)) 0) (fun x10 =>
  optK (rdLoad P H 3 (some x10)) (fun x11 =>
  optK (rdBin P H .eql 3 true (some x11) (some (.int .i64 0))) (fun x12 =>
  bvK x12 (fun b13 => bK b13
 (.jump (l43_34 t4 t7 t8 t9 H nx))
 (optK (rdLen P #[120] 3 (some [t4])) (fun x14 =>
  optK (rdBin P H .gtr 3 true (some x14) (some (.int .i64 0))) (fun x15 =>
  bvK x15 (fun b16 => bK b16
 (effQ (efBuildSlice P H nx 120 1 (some [(0, (.int .u8 32))])) (fun x17 H nx =>
  effQ (efAppS P H nx [120, 120] (some [t4, x17])) (fun x18 H nx =>
  .jump (l43_22 x18 (eptrV x3) t7 t8 t9 H nx))))
 (.jump (l43_22 t4 (eptrV x3) t7 t8 t9 H nx))) .bad) .bad) .bad)) .bad) .bad) .bad) .bad)) .bad) .bad) .bad) panK) .bad))) .bad) .bad)
 (optK (rdConv P H 120 9 (some t4)) (fun x19 =>
  .ret ⟨.ret (.tuple ⟨[x19, (.int .i64 0)]⟩), false, H, nx⟩) .bad)) .bad) .bad := by kernel_rfl
theorem q43_22 (t4 t6 t7 t8 t9 : Value) (H : T OB) (nx : Nat) : evT P pl (l43_22 t4 t6 t7 t8 t9 H nx) =
 optK (rdFieldAddr P 31 (some t6) 0) (fun x0 =>
 optK (rdLoad P H 3 (some x0)) (fun x1 =>
 optK (rdBin P H .eql 3 true (some x1) (some (.int .i64 1))) (fun x2 =>
 bvK x2 (fun b3 => bK b3
 (optK (rdFieldAddr P 31 (some t6) 2) (fun x4 =>
  optK (rdLoad P H 2 (some x4)) (fun x5 =>
  callQ (.call 78 [x5] false none H nx) (fun x6 H nx =>
  effQ (efAppS P H nx [120, 9] (some [t4, x6])) (fun x7 H nx =>
  optK (rdBin P H .add 3 true (some t9) (some (.int .i64 1))) (fun x8 =>
  .jump (l43_9 x7 t7 t8 x8 H nx)) .bad)) panK) .bad) .bad)
 (optK (rdBin P H .eql 3 true (some x1) (some (.int .i64 2))) (fun x9 =>
  bvK x9 (fun b10 => bK b10
 (optK (rdFieldAddr P 31 (some t6) 1) (fun x11 =>
  optK (rdLoad P H 9 (some x11)) (fun x12 =>
  callQ (.call 79 [x12] false none H nx) (fun x13 H nx =>
  effQ (efAppS P H nx [120, 120] (some [t4, x13])) (fun x14 H nx =>
  optK (rdBin P H .add 3 true (some t9) (some (.int .i64 1))) (fun x15 =>
  .jump (l43_9 x14 t7 t8 x15 H nx)) .bad)) panK) .bad) .bad)
 (optK (rdFieldAddr P 31 (some t6) 1) (fun x16 =>
  optK (rdLoad P H 9 (some x16)) (fun x17 =>
  effQ (efAppS P H nx [120, 9] (some [t4, x17])) (fun x18 H nx =>
  optK (rdBin P H .add 3 true (some t9) (some (.int .i64 1))) (fun x19 =>
  .jump (l43_9 x18 t7 t8 x19 H nx)) .bad)) .bad) .bad)) .bad) .bad)) .bad) .bad) .bad) .bad := by kernel_rfl
def l44_17 (t1 t3 t4 : Value) (H : T OB) (nx : Nat) : Cfg := .at ⟨44, 130, false, [], none, false⟩ (tmOf [(1, t1), (3, t3), (4, t4)]) (todoOf P 44 17) H nx
def l44_45 (t1 t9 t10 : Value) (H : T OB) (nx : Nat) : Cfg := .at ⟨44, 130, false, [], none, false⟩ (tmOf [(1, t1), (9, t9), (10, t10)]) (todoOf P 44 45) H nx
def l44_66 (t1 : Value) (H : T OB) (nx : Nat) : Cfg := .at ⟨44, 130, false, [], none, false⟩ (tmOf [(1, t1)]) (todoOf P 44 66) H nx
def l44_29 (t1 t3 t4 t5 t6 t7 t8 : Value) (H : T OB) (nx : Nat) : Cfg := .at ⟨44, 130, false, [], none, false⟩ (tmOf [(1, t1), (3, t3), (4, t4), (5, t5), (6, t6), (7, t7), (8, t8)]) (todoOf P 44 29) H nx
def l44_60 (t1 t9 t11 : Value) (H : T OB) (nx : Nat) : Cfg := .at ⟨44, 130, false, [], none, false⟩ (tmOf [(1, t1), (9, t9), (11, t11)]) (todoOf P 44 60) H nx
theorem q44 (a0 : Value) (H : T OB) (nx : Nat) : evT P pl (.call 44 [a0] false none H nx) =
 natF (Nat.succ nx) (fun nx =>
 optK (rdFieldAddr P 57 (some (eptrV a0)) 0) (fun x0 =>
 optK (rdLoad P H 3 (some x0)) (fun x1 =>
 optK (rdBin P H .eql 3 true (some x1) (some (.int .i64 1))) (fun x2 =>
 bvK x2 (fun b3 => bK b3
 (optK (rdFieldAddr P 57 (some (eptrV a0)) 1) (fun x4 =>
  optK (rdLoad P H 47 (some x4)) (fun x5 =>
  optK (rdFieldAddr P 57 (some (eptrV a0)) 2) (fun x6 =>
  optK (rdLoad P H 44 (some x6)) (fun x7 =>
  callQ (.call 80 [x5] false none H nx) (fun x8 H nx =>
  bK (optK (rdLoad P H 44 (some x6)) (fun u => vEq u x7) false && true) (optK (rdBin P H .add 9 true (some (.string ⟨⟨[118, 97, 108, 32]⟩⟩)) (some x8)) (fun x9 =>
  optK (rdBin P H .add 9 true (some x9) (some (.string ⟨⟨[32, 61, 32]⟩⟩))) (fun x10 =>
  callQ (.call 81 [x7] false none H nx) (fun x11 H nx =>
  bK (optK (rdBin P H .add 9 true (some x9) (some (.string ⟨⟨[32, 61, 32]⟩⟩))) (fun u => vEq u x10) false && (optK (rdBin P H .add 9 true (some (.string ⟨⟨[118, 97, 108, 32]⟩⟩)) (some x8)) (fun u => vEq u x9) false && true)) (optK (rdBin P H .add 9 false (some x10) (some x11)) (fun x12 =>
  .ret ⟨.ret x12, false, H, nx⟩) .bad) .bad) panK) .bad) .bad) .bad) panK) .bad) .bad) .bad) .bad)
 (optK (rdBin P H .eql 3 true (some x1) (some (.int .i64 2))) (fun x13 =>
  bvK x13 (fun b14 => bK b14
 (.jump (l44_17 (eptrV a0) (.slice none 0 0) (.int .i64 0) H nx))
 (optK (rdBin P H .eql 3 true (some x1) (some (.int .i64 3))) (fun x15 =>
  bvK x15 (fun b16 => bK b16
 (.jump (l44_45 (eptrV a0) (.slice none 0 0) (.int .i64 0) H nx))
 (optK (rdBin P H .eql 3 true (some x1) (some (.int .i64 4))) (fun x17 =>
  bvK x17 (fun b18 => bK b18
 (optK (rdFieldAddr P 57 (some (eptrV a0)) 5) (fun x19 =>
  optK (rdLoad P H 55 (some x19)) (fun x20 =>
  callQ (.call 84 [x20] false none H nx) (fun x21 H nx =>
  optK (rdBin P H .add 9 true (some (.string ⟨⟨[101, 120, 99, 101, 112, 116, 105, 111, 110, 32]⟩⟩)) (some x21)) (fun x22 =>
  .ret ⟨.ret x22, false, H, nx⟩) .bad) panK) .bad) .bad)
 (.jump (l44_66 (eptrV a0) H nx))) .bad) .bad)) .bad) .bad)) .bad) .bad)) .bad) .bad) .bad) .bad) := by kernel_rfl
theorem q44_17 (t1 t3 t4 : Value) (H : T OB) (nx : Nat) : evT P pl (l44_17 t1 t3 t4 H nx) =
 optK (rdFieldAddr P 57 (some t1) 3) (fun x0 =>
 optK (rdLoad P H 48 (some x0)) (fun x1 =>
 optK (rdLen P #[48] 3 (some [x1])) (fun x2 =>
 optK (rdBin P H .lss 3 false (some t4) (some x2)) (fun x3 =>
 bvK x3 (fun b4 => bK b4
 (optK (rdFieldAddr P 57 (some t1) 3) (fun x5 =>
  optK (rdLoad P H 48 (some x5)) (fun x6 =>
  optK (rdIndexAddr P 48 (some x6) (some t4)) (fun x7 =>
  optK (rdLoad P H 65 (some x7)) (fun x8 =>
  effQ (efAlloc P H nx 65) (fun x9 H nx =>
  frSt P H nx 65 (some x9) x8 (fun H nx =>
  optK (rdFieldAddr P 65 (some (eptrV x8)) 0) (fun x10 =>
  optK (rdLoad P H 9 (some x10)) (fun x11 =>
  optK (rdFieldAddr P 65 (some (eptrV x8)) 1) (fun x12 =>
  optK (rdLoad P H 42 (some x12)) (fun x13 =>
  callQ (.call 82 [x13] false none H nx) (fun x14 H nx =>
  .jump (l44_29 t1 t3 t4 (eptrV x8) x11 x14 (.int .i64 0) H nx)) panK) .bad) .bad) .bad) .bad))) .bad) .bad) .bad) .bad)
 (callQ (.call 83 [t3, (.string ⟨⟨[97, 110, 100]⟩⟩)] false none H nx) (fun x15 H nx =>
  optK (rdBin P H .add 9 true (some (.string ⟨⟨[102, 117, 110, 32]⟩⟩)) (some x15)) (fun x16 =>
  .ret ⟨.ret x16, false, H, nx⟩) .bad) panK)) .bad) .bad) .bad) .bad) .bad := by kernel_rfl
theorem q44_45 (t1 t9 t10 : Value) (H : T OB) (nx : Nat) : evT P pl (l44_45 t1 t9 t10 H nx) =
 optK (rdFieldAddr P 57 (some t1) 4) (fun x0 =>
 optK (rdFieldAddr P 52 (some x0) 2) (fun x1 =>
 optK (rdLoad P H 50 (some x1)) (fun x2 =>
 optK (rdLen P #[50] 3 (some [x2])) (fun x3 =>
 optK (rdBin P H .lss 3 false (some t10) (some x3)) (fun x4 =>
 bvK x4 (fun b5 => bK b5
 (optK (rdFieldAddr P 57 (some t1) 4) (fun x6 =>
  optK (rdFieldAddr P 52 (some x6) 2) (fun x7 =>
  optK (rdLoad P H 50 (some x7)) (fun x8 =>
  optK (rdIndexAddr P 50 (some x8) (some t10)) (fun x9 =>
  optK (rdLoad P H 55 (some x9)) (fun x10 =>
  callQ (.call 84 [x10] false none H nx) (fun x11 H nx =>
  effQ (efBuildSlice P H nx 49 1 (some [(0, x11)])) (fun x12 H nx =>
  effQ (efAppS P H nx [49, 49] (some [t9, x12])) (fun x13 H nx =>
  optK (rdBin P H .add 3 true (some t10) (some (.int .i64 1))) (fun x14 =>
  .jump (l44_45 t1 x13 x14 H nx)) .bad))) panK) .bad) .bad) .bad) .bad) .bad)
 (optK (rdFieldAddr P 57 (some t1) 4) (fun x15 =>
  optK (rdFieldAddr P 52 (some x15) 0) (fun x16 =>
  optK (rdLoad P H 49 (some x16)) (fun x17 =>
  optK (rdLen P #[49] 3 (some [x17])) (fun x18 =>
  optK (rdBin P H .eql 3 true (some x18) (some (.int .i64 1))) (fun x19 =>
  bvK x19 (fun b20 => bK b20
 (optK (rdFieldAddr P 57 (some t1) 4) (fun x21 =>
  optK (rdFieldAddr P 52 (some x21) 0) (fun x22 =>
  optK (rdLoad P H 49 (some x22)) (fun x23 =>
  optK (rdIndexAddr P 49 (some x23) (some (.int .i64 0))) (fun x24 =>
  optK (rdLoad P H 9 (some x24)) (fun x25 =>
  optK (rdBin P H .add 9 true (some x25) (some (.string ⟨⟨[32]⟩⟩))) (fun x26 =>
  .jump (l44_60 t1 t9 x26 H nx)) .bad) .bad) .bad) .bad) .bad) .bad)
 (optK (rdFieldAddr P 57 (some t1) 4) (fun x27 =>
  optK (rdFieldAddr P 52 (some x27) 0) (fun x28 =>
  optK (rdLoad P H 49 (some x28)) (fun x29 =>
  optK (rdLen P #[49] 3 (some [x29])) (fun x30 =>
  optK (rdBin P H .gtr 3 true (some x30) (some (.int .i64 1))) (fun x31 =>
  bvK x31 (fun b32 => bK b32
 (optK (rdFieldAddr P 57 (some t1) 4) (fun x33 =>
  optK (rdFieldAddr P 52 (some x33) 0) (fun x34 =>
  optK (rdLoad P H 49 (some x34)) (fun x35 =>
  callQ (.call 83 [x35, (.string ⟨⟨[44]⟩⟩)] false none H nx) (fun x36 H nx =>
  callQ (.call 85 [x36] false none H nx) (fun x37 H nx =>
  optK (rdBin P H .add 9 true (some x37) (some (.string ⟨⟨[32]⟩⟩))) (fun x38 =>
  .jump (l44_60 t1 t9 x38 H nx)) .bad) panK) panK) .bad) .bad) .bad)
 (.jump (l44_60 t1 t9 (.string ⟨⟨[]⟩⟩) H nx))) .bad) .bad) .bad) .bad) .bad) .bad)) .bad) .bad) .bad) .bad) .bad) .bad)) .bad) .bad) .bad) .bad) .bad) .bad := by kernel_rfl
theorem q44_66 (t1 : Value) (H : T OB) (nx : Nat) : evT P pl (l44_66 t1 H nx) =
 optK (rdFieldAddr P 57 (some t1) 2) (fun x0 =>
 optK (rdLoad P H 44 (some x0)) (fun x1 =>
 callQ (.call 81 [x1] false none H nx) (fun x2 H nx =>
 .ret ⟨.ret x2, false, H, nx⟩) panK) .bad) .bad := by kernel_rfl
theorem q44_29 (t1 t3 t4 t5 t6 t7 t8 : Value) (H : T OB) (nx : Nat) : evT P pl (l44_29 t1 t3 t4 t5 t6 t7 t8 H nx) =
 optK (rdLen P #[49] 3 (some [t7])) (fun x0 =>
 optK (rdBin P H .lss 3 false (some t8) (some x0)) (fun x1 =>
 bvK x1 (fun b2 => bK b2
 (optK (rdBin P H .add 9 true (some t6) (some (.string ⟨⟨[32]⟩⟩))) (fun x3 =>
  optK (rdIndexAddr P 49 (some t7) (some t8)) (fun x4 =>
  optK (rdLoad P H 9 (some x4)) (fun x5 =>
  optK (rdBin P H .add 9 false (some x3) (some x5)) (fun x6 =>
  optK (rdBin P H .add 3 true (some t8) (some (.int .i64 1))) (fun x7 =>
  .jump (l44_29 t1 t3 t4 t5 x6 t7 x7 H nx)) .bad) .bad) .bad) .bad) .bad)
 (optK (rdBin P H .add 9 true (some t6) (some (.string ⟨⟨[32, 61, 32]⟩⟩))) (fun x8 =>
  optK (rdFieldAddr P 65 (some t5) 2) (fun x9 =>
  optK (rdLoad P H 44 (some x9)) (fun x10 =>
  callQ (.call 81 [x10] false none H nx) (fun x11 H nx =>
  optK (rdBin P H .add 9 false (some x8) (some x11)) (fun x12 =>
  effQ (efBuildSlice P H nx 49 1 (some [(0, x12)])) (fun x13 H nx =>
  effQ (efAppS P H nx [49, 49] (some [t3, x13])) (fun x14 H nx =>
  optK (rdBin P H .add 3 true (some t4) (some (.int .i64 1))) (fun x15 =>
  .jump (l44_17 t1 x14 x15 H nx)) .bad))) .bad) panK) .bad) .bad) .bad)) .bad) .bad) .bad := by kernel_rfl
theorem q44_60 (t1 t9 t11 : Value) (H : T OB) (nx : Nat) : evT P pl (l44_60 t1 t9 t11 H nx) =
 optK (rdBin P H .add 9 true (some (.string ⟨⟨[100, 97, 116, 97, 116, 121, 112, 101, 32]⟩⟩)) (some t11)) (fun x0 =>
 optK (rdFieldAddr P 57 (some t1) 4) (fun x1 =>
 optK (rdFieldAddr P 52 (some x1) 1) (fun x2 =>
 optK (rdLoad P H 9 (some x2)) (fun x3 =>
 optK (rdBin P H .add 9 false (some x0) (some x3)) (fun x4 =>
 optK (rdBin P H .add 9 true (some x4) (some (.string ⟨⟨[32, 61, 32]⟩⟩))) (fun x5 =>
 callQ (.call 83 [t9, (.string ⟨⟨[124]⟩⟩)] false none H nx) (fun x6 H nx =>
 bK (optK (rdBin P H .add 9 true (some x4) (some (.string ⟨⟨[32, 61, 32]⟩⟩))) (fun u => vEq u x5) false && (optK (rdBin P H .add 9 false (some x0) (some x3)) (fun u => vEq u x4) false && (optK (rdLoad P H 9 (some x2)) (fun u => vEq u x3) false && (optK (rdBin P H .add 9 true (some (.string ⟨⟨[100, 97, 116, 97, 116, 121, 112, 101, 32]⟩⟩)) (some t11)) (fun u => vEq u x0) false && true)))) (optK (rdBin P H .add 9 false (some x5) (some x6)) (fun x7 =>
 .ret ⟨.ret x7, false, H, nx⟩) .bad) .bad) panK) .bad) .bad) .bad) .bad) .bad) .bad := by kernel_rfl
def l45_29 (t1 t3 t4 : Value) (H : T OB) (nx : Nat) : Cfg := .at ⟨45, 171, false, [], none, false⟩ (tmOf [(1, t1), (3, t3), (4, t4)]) (todoOf P 45 29) H nx
def l45_47 (t1 t3 t6 : Value) (H : T OB) (nx : Nat) : Cfg := .at ⟨45, 171, false, [], none, false⟩ (tmOf [(1, t1), (3, t3), (6, t6)]) (todoOf P 45 47) H nx
def l45_72 (H : T OB) (nx : Nat) : Cfg := .at ⟨45, 171, false, [], none, false⟩ (tmOf []) (todoOf P 45 72) H nx
def l45_36 (t1 t3 t4 : Value) (t89 : Bool) (H : T OB) (nx : Nat) : Cfg := .at ⟨45, 171, false, [], none, false⟩ (tmOf [(1, t1), (3, t3), (4, t4), (89, .bool t89)]) (todoOf P 45 36) H nx
def l45_57 (t1 t3 t7 : Value) (H : T OB) (nx : Nat) : Cfg := .at ⟨45, 171, false, [], none, false⟩ (tmOf [(1, t1), (3, t3), (7, t7)]) (todoOf P 45 57) H nx
theorem q45 (a0 : Value) (H : T OB) (nx : Nat) : evT P pl (.call 45 [a0] false none H nx) =
 natF (Nat.succ nx) (fun nx =>
 optK (rdFieldAddr P 57 (some (eptrV a0)) 0) (fun x0 =>
 optK (rdLoad P H 3 (some x0)) (fun x1 =>
 optK (rdBuild P 57 (some [(0, x1)])) (fun x2 =>
 effQ (efAlloc P H nx 57) (fun x3 H nx =>
 effQ (efStore P H nx 57 (some x3) (some x2)) (fun x4 H nx =>
 optK (rdFieldAddr P 57 (some (eptrV a0)) 0) (fun x5 =>
 optK (rdLoad P H 3 (some x5)) (fun x6 =>
 optK (rdBin P H .eql 3 true (some x6) (some (.int .i64 1))) (fun x7 =>
 bvK x7 (fun b8 => bK b8
 (optK (rdFieldAddr P 57 (some (eptrV a0)) 1) (fun x9 =>
  optK (rdLoad P H 47 (some x9)) (fun x10 =>
  optK (rdFieldAddr P 57 (some x3) 1) (fun x11 =>
  effQ (efStore P H nx 47 (some x11) (some x10)) (fun x12 H nx =>
  optK (rdFieldAddr P 57 (some (eptrV a0)) 2) (fun x13 =>
  optK (rdLoad P H 44 (some x13)) (fun x14 =>
  optK (rdFieldAddr P 57 (some x3) 2) (fun x15 =>
  effQ (efStore P H nx 44 (some x15) (some x14)) (fun x16 H nx =>
  optK (rdLoad P H 57 (some x3)) (fun x17 =>
  effQ (efBuildSlice P H nx 24 1 (some [(0, x17)])) (fun x18 H nx =>
  optK (rdLoad P H 57 (some (eptrV a0))) (fun x19 =>
  effQ (efBuildSlice P H nx 24 1 (some [(0, x19)])) (fun x20 H nx =>
  callQ (.call 14 [x18, x20] false none H nx) (fun x21 H nx =>
  bvK x21 (fun b22 => bK b22 (optK (rdFieldAddr P 57 (some (eptrV a0)) 1) (fun x23 =>
  optK (rdLoad P H 47 (some x23)) (fun x24 =>
  callQ (.call 86 [x24] false none H nx) (fun x25 H nx =>
  bvK x25 (fun b26 => bK b26 (optK (rdFieldAddr P 57 (some (eptrV a0)) 2) (fun x27 =>
  optK (rdLoad P H 44 (some x27)) (fun x28 =>
  callQ (.call 87 [x28] false none H nx) (fun x29 H nx =>
  bvK x29 (fun b30 => .ret ⟨.ret (.bool b30), false, H, nx⟩) .bad) panK) .bad) .bad) (.ret ⟨.ret (.bool false), false, H, nx⟩)) .bad) panK) .bad) .bad) (.ret ⟨.ret (.bool false), false, H, nx⟩)) .bad) panK)) .bad)) .bad)) .bad) .bad) .bad)) .bad) .bad) .bad)
 (optK (rdBin P H .eql 3 true (some x6) (some (.int .i64 5))) (fun x31 =>
  bvK x31 (fun b32 => bK b32
 (optK (rdFieldAddr P 57 (some (eptrV a0)) 2) (fun x33 =>
  optK (rdLoad P H 44 (some x33)) (fun x34 =>
  optK (rdFieldAddr P 57 (some x3) 2) (fun x35 =>
  effQ (efStore P H nx 44 (some x35) (some x34)) (fun x36 H nx =>
  optK (rdLoad P H 57 (some x3)) (fun x37 =>
  effQ (efBuildSlice P H nx 24 1 (some [(0, x37)])) (fun x38 H nx =>
  optK (rdLoad P H 57 (some (eptrV a0))) (fun x39 =>
  effQ (efBuildSlice P H nx 24 1 (some [(0, x39)])) (fun x40 H nx =>
  callQ (.call 14 [x38, x40] false none H nx) (fun x41 H nx =>
  bvK x41 (fun b42 => bK b42 (optK (rdFieldAddr P 57 (some (eptrV a0)) 2) (fun x43 =>
  optK (rdLoad P H 44 (some x43)) (fun x44 =>
  callQ (.call 87 [x44] false none H nx) (fun x45 H nx =>
  bvK x45 (fun b46 => .ret ⟨.ret (.bool b46), false, H, nx⟩) .bad) panK) .bad) .bad) (.ret ⟨.ret (.bool false), false, H, nx⟩)) .bad) panK)) .bad)) .bad)) .bad) .bad) .bad)
 (optK (rdBin P H .eql 3 true (some x6) (some (.int .i64 2))) (fun x47 =>
  bvK x47 (fun b48 => bK b48
 (optK (rdFieldAddr P 57 (some (eptrV a0)) 3) (fun x49 =>
  optK (rdLoad P H 48 (some x49)) (fun x50 =>
  optK (rdFieldAddr P 57 (some x3) 3) (fun x51 =>
  effQ (efStore P H nx 48 (some x51) (some x50)) (fun x52 H nx =>
  .jump (l45_29 (eptrV a0) x3 (.int .i64 0) H nx))) .bad) .bad) .bad)
 (optK (rdBin P H .eql 3 true (some x6) (some (.int .i64 3))) (fun x53 =>
  bvK x53 (fun b54 => bK b54
 (optK (rdFieldAddr P 57 (some (eptrV a0)) 4) (fun x55 =>
  optK (rdLoad P H 52 (some x55)) (fun x56 =>
  optK (rdFieldAddr P 57 (some x3) 4) (fun x57 =>
  effQ (efStore P H nx 52 (some x57) (some x56)) (fun x58 H nx =>
  .jump (l45_47 (eptrV a0) x3 (.int .i64 0) H nx))) .bad) .bad) .bad)
 (optK (rdBin P H .eql 3 true (some x6) (some (.int .i64 4))) (fun x59 =>
  bvK x59 (fun b60 => bK b60
 (optK (rdFieldAddr P 57 (some (eptrV a0)) 5) (fun x61 =>
  optK (rdLoad P H 55 (some x61)) (fun x62 =>
  optK (rdFieldAddr P 57 (some x3) 5) (fun x63 =>
  effQ (efStore P H nx 55 (some x63) (some x62)) (fun x64 H nx =>
  optK (rdFieldAddr P 57 (some (eptrV a0)) 5) (fun x65 =>
  optK (rdLoad P H 55 (some x65)) (fun x66 =>
  callQ (.call 90 [x66] false none H nx) (fun x67 H nx =>
  bvK x67 (fun b68 => bK b68 (optK (rdLoad P H 57 (some x3)) (fun x69 =>
  effQ (efBuildSlice P H nx 24 1 (some [(0, x69)])) (fun x70 H nx =>
  optK (rdLoad P H 57 (some (eptrV a0))) (fun x71 =>
  effQ (efBuildSlice P H nx 24 1 (some [(0, x71)])) (fun x72 H nx =>
  callQ (.call 14 [x70, x72] false none H nx) (fun x73 H nx =>
  bvK x73 (fun b74 => .ret ⟨.ret (.bool b74), false, H, nx⟩) .bad) panK)) .bad)) .bad) (.ret ⟨.ret (.bool false), false, H, nx⟩)) .bad) panK) .bad) .bad)) .bad) .bad) .bad)
 (.jump (l45_72 H nx))) .bad) .bad)) .bad) .bad)) .bad) .bad)) .bad) .bad)) .bad) .bad) .bad) .bad))) .bad) .bad) .bad) := by kernel_rfl
theorem q45_29 (t1 t3 t4 : Value) (H : T OB) (nx : Nat) : evT P pl (l45_29 t1 t3 t4 H nx) =
 optK (rdFieldAddr P 57 (some t1) 3) (fun x0 =>
 optK (rdLoad P H 48 (some x0)) (fun x1 =>
 optK (rdLen P #[48] 3 (some [x1])) (fun x2 =>
 optK (rdBin P H .lss 3 false (some t4) (some x2)) (fun x3 =>
 bvK x3 (fun b4 => bK b4
 (optK (rdFieldAddr P 57 (some t1) 3) (fun x5 =>
  optK (rdLoad P H 48 (some x5)) (fun x6 =>
  optK (rdIndexAddr P 48 (some x6) (some t4)) (fun x7 =>
  optK (rdLoad P H 65 (some x7)) (fun x8 =>
  effQ (efAlloc P H nx 65) (fun x9 H nx =>
  frSt P H nx 65 (some x9) x8 (fun H nx =>
  optK (rdFieldAddr P 65 (some (eptrV x8)) 0) (fun x10 =>
  optK (rdLoad P H 9 (some x10)) (fun x11 =>
  callQ (.call 88 [(.int .i64 3), x11] false none H nx) (fun x12 H nx =>
  bvK x12 (fun b13 => optK (unV P .not (some (.bool b13))) (fun x14 =>
  bvK x14 (fun b15 => bK b15 (.jump (l45_36 t1 t3 t4 true H nx)) (optK (rdFieldAddr P 65 (some (eptrV x8)) 1) (fun x16 =>
  optK (rdLoad P H 42 (some x16)) (fun x17 =>
  optK (rdLen P #[42] 3 (some [x17])) (fun x18 =>
  optK (rdBin P H .eql 3 true (some x18) (some (.int .i64 0))) (fun x19 =>
  bvK x19 (fun b20 => bK b20 (.jump (l45_36 t1 t3 t4 true H nx)) (optK (rdFieldAddr P 65 (some (eptrV x8)) 1) (fun x21 =>
  optK (rdLoad P H 42 (some x21)) (fun x22 =>
  callQ (.call 89 [x22] false none H nx) (fun x23 H nx =>
  bvK x23 (fun b24 => optK (unV P .not (some (.bool b24))) (fun x25 =>
  bvK x25 (fun b26 => bK b26 (.jump (l45_36 t1 t3 t4 true H nx)) (optK (rdFieldAddr P 65 (some (eptrV x8)) 2) (fun x27 =>
  optK (rdLoad P H 44 (some x27)) (fun x28 =>
  callQ (.call 87 [x28] false none H nx) (fun x29 H nx =>
  bvK x29 (fun b30 => optK (unV P .not (some (.bool b30))) (fun x31 =>
  bvK x31 (fun b32 => .jump (l45_36 t1 t3 t4 b32 H nx)) .bad) .bad) .bad) panK) .bad) .bad)) .bad) .bad) .bad) panK) .bad) .bad)) .bad) .bad) .bad) .bad) .bad)) .bad) .bad) .bad) panK) .bad) .bad))) .bad) .bad) .bad) .bad)
 (optK (rdFieldAddr P 57 (some t1) 3) (fun x33 =>
  optK (rdLoad P H 48 (some x33)) (fun x34 =>
  optK (rdLen P #[48] 3 (some [x34])) (fun x35 =>
  optK (rdBin P H .gtr 3 true (some x35) (some (.int .i64 0))) (fun x36 =>
  bvK x36 (fun b37 => bK b37 (optK (rdLoad P H 57 (some t3)) (fun x38 =>
  effQ (efBuildSlice P H nx 24 1 (some [(0, x38)])) (fun x39 H nx =>
  optK (rdLoad P H 57 (some t1)) (fun x40 =>
  effQ (efBuildSlice P H nx 24 1 (some [(0, x40)])) (fun x41 H nx =>
  callQ (.call 14 [x39, x41] false none H nx) (fun x42 H nx =>
  bvK x42 (fun b43 => .ret ⟨.ret (.bool b43), false, H, nx⟩) .bad) panK)) .bad)) .bad) (.ret ⟨.ret (.bool false), false, H, nx⟩)) .bad) .bad) .bad) .bad) .bad)) .bad) .bad) .bad) .bad) .bad := by kernel_rfl
theorem q45_47 (t1 t3 t6 : Value) (H : T OB) (nx : Nat) : evT P pl (l45_47 t1 t3 t6 H nx) =
 optK (rdFieldAddr P 57 (some t1) 4) (fun x0 =>
 optK (rdFieldAddr P 52 (some x0) 0) (fun x1 =>
 optK (rdLoad P H 49 (some x1)) (fun x2 =>
 optK (rdLen P #[49] 3 (some [x2])) (fun x3 =>
 optK (rdBin P H .lss 3 false (some t6) (some x3)) (fun x4 =>
 bvK x4 (fun b5 => bK b5
 (optK (rdFieldAddr P 57 (some t1) 4) (fun x6 =>
  optK (rdFieldAddr P 52 (some x6) 0) (fun x7 =>
  optK (rdLoad P H 49 (some x7)) (fun x8 =>
  optK (rdIndexAddr P 49 (some x8) (some t6)) (fun x9 =>
  optK (rdLoad P H 9 (some x9)) (fun x10 =>
  callQ (.call 88 [(.int .i64 5), x10] false none H nx) (fun x11 H nx =>
  bvK x11 (fun b12 => optK (unV P .not (some (.bool b12))) (fun x13 =>
  bvK x13 (fun b14 => bK b14
 (.ret ⟨.ret (.bool false), false, H, nx⟩)
 (optK (rdBin P H .add 3 true (some t6) (some (.int .i64 1))) (fun x15 =>
  .jump (l45_47 t1 t3 x15 H nx)) .bad)) .bad) .bad) .bad) panK) .bad) .bad) .bad) .bad) .bad)
 (.jump (l45_57 t1 t3 (.int .i64 0) H nx))) .bad) .bad) .bad) .bad) .bad) .bad := by kernel_rfl
theorem q45_72 (H : T OB) (nx : Nat) : evT P pl (l45_72 H nx) =
 .ret ⟨.ret (.bool false), false, H, nx⟩ := by kernel_rfl
theorem q45_36 (t1 t3 t4 : Value) (t89 : Bool) (H : T OB) (nx : Nat) : evT P pl (l45_36 t1 t3 t4 t89 H nx) =
 bK t89
 (.ret ⟨.ret (.bool false), false, H, nx⟩)
 (optK (rdBin P H .add 3 true (some t4) (some (.int .i64 1))) (fun x0 =>
  .jump (l45_29 t1 t3 x0 H nx)) .bad) := by kernel_rfl
theorem q45_57 (t1 t3 t7 : Value) (H : T OB) (nx : Nat) : evT P pl (l45_57 t1 t3 t7 H nx) =
 optK (rdFieldAddr P 57 (some t1) 4) (fun x0 =>
 optK (rdFieldAddr P 52 (some x0) 2) (fun x1 =>
 optK (rdLoad P H 50 (some x1)) (fun x2 =>
 optK (rdLen P #[50] 3 (some [x2])) (fun x3 =>
 optK (rdBin P H .lss 3 false (some t7) (some x3)) (fun x4 =>
 bvK x4 (fun b5 => bK b5
 (optK (rdFieldAddr P 57 (some t1) 4) (fun x6 =>
  optK (rdFieldAddr P 52 (some x6) 2) (fun x7 =>
  optK (rdLoad P H 50 (some x7)) (fun x8 =>
  optK (rdIndexAddr P 50 (some x8) (some t7)) (fun x9 =>
  optK (rdLoad P H 55 (some x9)) (fun x10 =>
  callQ (.call 90 [x10] false none H nx) (fun x11 H nx =>
  bvK x11 (fun b12 => optK (unV P .not (some (.bool b12))) (fun x13 =>
  bvK x13 (fun b14 => bK b14
 (.ret ⟨.ret (.bool false), false, H, nx⟩)
 (optK (rdBin P H .add 3 true (some t7) (some (.int .i64 1))) (fun x15 =>
  .jump (l45_57 t1 t3 x15 H nx)) .bad)) .bad) .bad) .bad) panK) .bad) .bad) .bad) .bad) .bad)
 (optK (rdFieldAddr P 57 (some t1) 4) (fun x16 =>
  optK (rdFieldAddr P 52 (some x16) 1) (fun x17 =>
  optK (rdLoad P H 9 (some x17)) (fun x18 =>
  callQ (.call 88 [(.int .i64 3), x18] false none H nx) (fun x19 H nx =>
  bvK x19 (fun b20 => bK b20 (optK (rdFieldAddr P 57 (some t1) 4) (fun x21 =>
  optK (rdFieldAddr P 52 (some x21) 2) (fun x22 =>
  optK (rdLoad P H 50 (some x22)) (fun x23 =>
  optK (rdLen P #[50] 3 (some [x23])) (fun x24 =>
  optK (rdBin P H .gtr 3 true (some x24) (some (.int .i64 0))) (fun x25 =>
  bvK x25 (fun b26 => bK b26 (optK (rdLoad P H 57 (some t3)) (fun x27 =>
  effQ (efBuildSlice P H nx 24 1 (some [(0, x27)])) (fun x28 H nx =>
  optK (rdLoad P H 57 (some t1)) (fun x29 =>
  effQ (efBuildSlice P H nx 24 1 (some [(0, x29)])) (fun x30 H nx =>
  callQ (.call 14 [x28, x30] false none H nx) (fun x31 H nx =>
  bvK x31 (fun b32 => .ret ⟨.ret (.bool b32), false, H, nx⟩) .bad) panK)) .bad)) .bad) (.ret ⟨.ret (.bool false), false, H, nx⟩)) .bad) .bad) .bad) .bad) .bad) .bad) (.ret ⟨.ret (.bool false), false, H, nx⟩)) .bad) panK) .bad) .bad) .bad)) .bad) .bad) .bad) .bad) .bad) .bad := by kernel_rfl
end
end Go.Proofs.YthjhonhhbddhkaaGreatDoor
/- What functions of the program say, as trees. -/
namespace Go.Proofs.YthjhonhhbddhkaaGreatDoor
open Go.Ev Go.RowKit
noncomputable section
set_option linter.unusedVariables false
set_option maxHeartbeats 8000000
def l53_11 (t0 t1 t5 : Value) (H : T OB) (nx : Nat) : Cfg := .at ⟨53, 55, false, [], none, false⟩ (tmOf [(0, t0), (1, t1), (5, t5)]) (todoOf P 53 11) H nx
def l53_16 (t0 t1 t5 : Value) (t54 : Bool) (H : T OB) (nx : Nat) : Cfg := .at ⟨53, 55, false, [], none, false⟩ (tmOf [(0, t0), (1, t1), (5, t5), (54, .bool t54)]) (todoOf P 53 16) H nx
theorem q53 (a0 a1 : Value) (H : T OB) (nx : Nat) : evT P pl (.call 53 [a0, a1] false none H nx) =
 optK (rdLen P #[53] 3 (some [a0])) (fun x0 =>
 optK (rdLen P #[53] 3 (some [a1])) (fun x1 =>
 optK (rdBin P H .neq 3 false (some x0) (some x1)) (fun x2 =>
 bvK x2 (fun b3 => bK b3
 (.ret ⟨.ret (.bool false), false, H, nx⟩)
 (.jump (l53_11 a0 a1 (.int .i64 0) H nx))) .bad) .bad) .bad) .bad := by kernel_rfl
theorem q53_11 (t0 t1 t5 : Value) (H : T OB) (nx : Nat) : evT P pl (l53_11 t0 t1 t5 H nx) =
 optK (rdLen P #[53] 3 (some [t0])) (fun x0 =>
 optK (rdBin P H .lss 3 false (some t5) (some x0)) (fun x1 =>
 bvK x1 (fun b2 => bK b2
 (optK (rdIndexAddr P 53 (some t0) (some t5)) (fun x3 =>
  optK (rdFieldAddr P 138 (some x3) 0) (fun x4 =>
  optK (rdLoad P H 3 (some x4)) (fun x5 =>
  optK (rdIndexAddr P 53 (some t1) (some t5)) (fun x6 =>
  optK (rdFieldAddr P 138 (some x6) 0) (fun x7 =>
  optK (rdLoad P H 3 (some x7)) (fun x8 =>
  optK (rdBin P H .neq 3 false (some x5) (some x8)) (fun x9 =>
  bvK x9 (fun b10 => bK b10 (.jump (l53_16 t0 t1 t5 true H nx)) (optK (rdIndexAddr P 53 (some t0) (some t5)) (fun x11 =>
  optK (rdFieldAddr P 138 (some x11) 1) (fun x12 =>
  optK (rdLoad P H 9 (some x12)) (fun x13 =>
  optK (rdIndexAddr P 53 (some t1) (some t5)) (fun x14 =>
  optK (rdFieldAddr P 138 (some x14) 1) (fun x15 =>
  optK (rdLoad P H 9 (some x15)) (fun x16 =>
  optK (rdBin P H .neq 9 false (some x13) (some x16)) (fun x17 =>
  bvK x17 (fun b18 => bK b18 (.jump (l53_16 t0 t1 t5 true H nx)) (optK (rdIndexAddr P 53 (some t0) (some t5)) (fun x19 =>
  optK (rdFieldAddr P 138 (some x19) 2) (fun x20 =>
  optK (rdLoad P H 53 (some x20)) (fun x21 =>
  optK (rdIndexAddr P 53 (some t1) (some t5)) (fun x22 =>
  optK (rdFieldAddr P 138 (some x22) 2) (fun x23 =>
  optK (rdLoad P H 53 (some x23)) (fun x24 =>
  callQ (.call 53 [x21, x24] false none H nx) (fun x25 H nx =>
  bvK x25 (fun b26 => optK (unV P .not (some (.bool b26))) (fun x27 =>
  bvK x27 (fun b28 => .jump (l53_16 t0 t1 t5 b28 H nx)) .bad) .bad) .bad) panK) .bad) .bad) .bad) .bad) .bad) .bad)) .bad) .bad) .bad) .bad) .bad) .bad) .bad) .bad)) .bad) .bad) .bad) .bad) .bad) .bad) .bad) .bad)
 (.ret ⟨.ret (.bool true), false, H, nx⟩)) .bad) .bad) .bad := by kernel_rfl
theorem q53_16 (t0 t1 t5 : Value) (t54 : Bool) (H : T OB) (nx : Nat) : evT P pl (l53_16 t0 t1 t5 t54 H nx) =
 bK t54
 (.ret ⟨.ret (.bool false), false, H, nx⟩)
 (optK (rdBin P H .add 3 true (some t5) (some (.int .i64 1))) (fun x0 =>
  .jump (l53_11 t0 t1 x0 H nx)) .bad) := by kernel_rfl
def l54_7 (t1 t7 t8 t9 : Value) (H : T OB) (nx : Nat) : Cfg := .at ⟨54, 17, false, [], none, false⟩ (tmOf [(1, t1), (7, t7), (8, t8), (9, t9)]) (todoOf P 54 7) H nx
theorem q54 (a0 a1 : Value) (H : T OB) (nx : Nat) : evT P pl (.call 54 [a0, a1] false none H nx) =
 optK (rdLen P #[49] 3 (some [a0])) (fun x0 =>
 .jump (l54_7 a1 a0 x0 (.int .i64 0) H nx)) .bad := by kernel_rfl
theorem q54_7 (t1 t7 t8 t9 : Value) (H : T OB) (nx : Nat) : evT P pl (l54_7 t1 t7 t8 t9 H nx) =
 optK (rdBin P H .lss 3 false (some t9) (some t8)) (fun x0 =>
 bvK x0 (fun b1 => bK b1
 (optK (rdIndexAddr P 49 (some t7) (some t9)) (fun x2 =>
  optK (rdLoad P H 9 (some x2)) (fun x3 =>
  optK (rdBin P H .eql 9 false (some x3) (some t1)) (fun x4 =>
  bvK x4 (fun b5 => bK b5
 (.ret ⟨.ret (.bool true), false, H, nx⟩)
 (optK (rdBin P H .add 3 true (some t9) (some (.int .i64 1))) (fun x6 =>
  .jump (l54_7 t1 t7 t8 x6 H nx)) .bad)) .bad) .bad) .bad) .bad)
 (.ret ⟨.ret (.bool false), false, H, nx⟩)) .bad) .bad := by kernel_rfl
theorem q55 (a0 : Value) (H : T OB) (nx : Nat) : evT P pl (.call 55 [a0] false none H nx) =
 optK (rdBin P H .geq 5 true (some a0) (some (.int .u8 97))) (fun x0 =>
 bvK x0 (fun b1 => bK b1 (optK (rdBin P H .leq 5 true (some a0) (some (.int .u8 122))) (fun x2 =>
 bvK x2 (fun b3 => .ret ⟨.ret (.bool b3), false, H, nx⟩) .bad) .bad) (.ret ⟨.ret (.bool false), false, H, nx⟩)) .bad) .bad := by kernel_rfl
theorem q56 (a0 : Value) (H : T OB) (nx : Nat) : evT P pl (.call 56 [a0] false none H nx) =
 callQ (.call 55 [a0] false none H nx) (fun x0 H nx =>
 bvK x0 (fun b1 => bK b1 (.ret ⟨.ret (.bool true), false, H, nx⟩) (callQ (.call 57 [a0] false none H nx) (fun x2 H nx =>
 bvK x2 (fun b3 => bK b3 (.ret ⟨.ret (.bool true), false, H, nx⟩) (callQ (.call 99 [a0] false none H nx) (fun x4 H nx =>
 bvK x4 (fun b5 => bK b5 (.ret ⟨.ret (.bool true), false, H, nx⟩) (optK (rdBin P H .eql 5 true (some a0) (some (.int .u8 95))) (fun x6 =>
 bvK x6 (fun b7 => bK b7 (.ret ⟨.ret (.bool true), false, H, nx⟩) (optK (rdBin P H .eql 5 true (some a0) (some (.int .u8 39))) (fun x8 =>
 bvK x8 (fun b9 => .ret ⟨.ret (.bool b9), false, H, nx⟩) .bad) .bad)) .bad) .bad)) .bad) panK)) .bad) panK)) .bad) panK := by kernel_rfl
theorem q57 (a0 : Value) (H : T OB) (nx : Nat) : evT P pl (.call 57 [a0] false none H nx) =
 optK (rdBin P H .geq 5 true (some a0) (some (.int .u8 65))) (fun x0 =>
 bvK x0 (fun b1 => bK b1 (optK (rdBin P H .leq 5 true (some a0) (some (.int .u8 90))) (fun x2 =>
 bvK x2 (fun b3 => .ret ⟨.ret (.bool b3), false, H, nx⟩) .bad) .bad) (.ret ⟨.ret (.bool false), false, H, nx⟩)) .bad) .bad := by kernel_rfl
def l58_6 (t0 : Value) (t3 : Bool) (H : T OB) (nx : Nat) : Cfg := .at ⟨58, 23, false, [], none, false⟩ (tmOf [(0, t0), (3, .bool t3)]) (todoOf P 58 6) H nx
theorem q58 (a0 : Value) (H : T OB) (nx : Nat) : evT P pl (.call 58 [a0] false none H nx) =
 optK (rdIndex P 9 (some a0) (some (.int .i64 0))) (fun x0 =>
 callQ (.call 57 [x0] false none H nx) (fun x1 H nx =>
 bvK x1 (fun b2 => bK b2 (.jump (l58_6 a0 true H nx)) (optK (rdBin P H .eql 9 true (some a0) (some (.string ⟨⟨[116, 114, 117, 101]⟩⟩))) (fun x3 =>
 bvK x3 (fun b4 => bK b4 (.jump (l58_6 a0 true H nx)) (optK (rdBin P H .eql 9 true (some a0) (some (.string ⟨⟨[102, 97, 108, 115, 101]⟩⟩))) (fun x5 =>
 bvK x5 (fun b6 => bK b6 (.jump (l58_6 a0 true H nx)) (optK (rdBin P H .eql 9 true (some a0) (some (.string ⟨⟨[110, 105, 108]⟩⟩))) (fun x7 =>
 bvK x7 (fun b8 => .jump (l58_6 a0 b8 H nx)) .bad) .bad)) .bad) .bad)) .bad) .bad)) .bad) panK) .bad := by kernel_rfl
theorem q58_6 (t0 : Value) (t3 : Bool) (H : T OB) (nx : Nat) : evT P pl (l58_6 t0 t3 H nx) =
 bK t3
 (.ret ⟨.ret (.int .i64 4), false, H, nx⟩)
 (optK (rdSlice P H 144 (some (.pointer (some ⟨1, 0, none⟩))) (some none) (some none) (some none)) (fun x0 =>
  callQ (.call 54 [x0, t0] false none H nx) (fun x1 H nx =>
  bvK x1 (fun b2 => bK b2
 (.ret ⟨.ret (.int .i64 6), false, H, nx⟩)
 (.ret ⟨.ret (.int .i64 3), false, H, nx⟩)) .bad) panK) .bad) := by kernel_rfl
theorem q63 (a0 : Value) (H : T OB) (nx : Nat) : evT P pl (.call 63 [a0] false none H nx) =
 effQ (efAlloc P H nx 31) (fun x0 H nx =>
 callQ (.call 110 [a0] false none H nx) (fun x1 H nx =>
 optK (rdExtract (some x1) 0) (fun x2 =>
 optK (rdExtract (some x1) 1) (fun x3 =>
 bvK x3 (fun b4 => bK b4
 (optK (rdBuild P 31 (some [(0, (.int .i64 1)), (2, x2)])) (fun x5 =>
  effQ (efStore P H nx 31 (some x0) (some x5)) (fun x6 H nx =>
  optK (rdLoad P H 31 (some x0)) (fun x7 =>
  .ret ⟨.ret (.tuple ⟨[x7, (.bool true)]⟩), false, H, nx⟩) .bad)) .bad)
 (callQ (.call 111 [a0] false none H nx) (fun x8 H nx =>
  optK (rdExtract (some x8) 0) (fun x9 =>
  optK (rdExtract (some x8) 1) (fun x10 =>
  bvK x10 (fun b11 => bK b11
 (optK (rdBuild P 31 (some [(0, (.int .i64 2)), (1, x9)])) (fun x12 =>
  effQ (efStore P H nx 31 (some x0) (some x12)) (fun x13 H nx =>
  optK (rdLoad P H 31 (some x0)) (fun x14 =>
  .ret ⟨.ret (.tuple ⟨[x14, (.bool true)]⟩), false, H, nx⟩) .bad)) .bad)
 (callQ (.call 112 [a0] false none H nx) (fun x15 H nx =>
  bvK x15 (fun b16 => bK b16
 (callQ (.call 113 [a0] false none H nx) (fun x17 H nx =>
  optK (rdBuild P 31 (some [(0, x17), (1, a0)])) (fun x18 =>
  effQ (efStore P H nx 31 (some x0) (some x18)) (fun x19 H nx =>
  optK (rdLoad P H 31 (some x0)) (fun x20 =>
  .ret ⟨.ret (.tuple ⟨[x20, (.bool true)]⟩), false, H, nx⟩) .bad)) .bad) panK)
 (callQ (.call 114 [a0] false none H nx) (fun x21 H nx =>
  bvK x21 (fun b22 => bK b22
 (optK (rdBuild P 31 (some [(0, (.int .i64 5)), (1, a0)])) (fun x23 =>
  effQ (efStore P H nx 31 (some x0) (some x23)) (fun x24 H nx =>
  optK (rdLoad P H 31 (some x0)) (fun x25 =>
  .ret ⟨.ret (.tuple ⟨[x25, (.bool true)]⟩), false, H, nx⟩) .bad)) .bad)
 (callQ (.call 116 [] false none H nx) (fun x26 H nx =>
  callQ (.call 115 [x26, a0] false none H nx) (fun x27 H nx =>
  bvK x27 (fun b28 => bK b28
 (optK (rdBuild P 31 (some [(0, (.int .i64 7)), (1, a0)])) (fun x29 =>
  effQ (efStore P H nx 31 (some x0) (some x29)) (fun x30 H nx =>
  optK (rdLoad P H 31 (some x0)) (fun x31 =>
  .ret ⟨.ret (.tuple ⟨[x31, (.bool true)]⟩), false, H, nx⟩) .bad)) .bad)
 (effQ (efStore P H nx 31 (some x0) (some (.agg ⟨[(.int .i64 0), (.string ⟨⟨[]⟩⟩), (.int .i64 0), (.int .i64 0)]⟩))) (fun x32 H nx =>
  optK (rdLoad P H 31 (some x0)) (fun x33 =>
  .ret ⟨.ret (.tuple ⟨[x33, (.bool false)]⟩), false, H, nx⟩) .bad))) .bad) panK) panK)) .bad) panK)) .bad) panK)) .bad) .bad) .bad) panK)) .bad) .bad) .bad) panK) := by kernel_rfl
theorem q64 (a0 : Value) (H : T OB) (nx : Nat) : evT P pl (.call 64 [a0] false none H nx) =
 natF (Nat.succ nx) (fun nx =>
 optK (rdFieldAddr P 31 (some (eptrV a0)) 0) (fun x0 =>
 optK (rdLoad P H 3 (some x0)) (fun x1 =>
 optK (rdBin P H .eql 3 true (some x1) (some (.int .i64 0))) (fun x2 =>
 bvK x2 (fun b3 => bK b3
 (.ret ⟨.ret (.string ⟨⟨[]⟩⟩), false, H, nx⟩)
 (optK (rdBin P H .eql 3 true (some x1) (some (.int .i64 1))) (fun x4 =>
  bvK x4 (fun b5 => bK b5
 (optK (rdFieldAddr P 31 (some (eptrV a0)) 2) (fun x6 =>
  optK (rdLoad P H 2 (some x6)) (fun x7 =>
  callQ (.call 117 [x7] false none H nx) (fun x8 H nx =>
  .ret ⟨.ret x8, false, H, nx⟩) panK) .bad) .bad)
 (optK (rdBin P H .eql 3 true (some x1) (some (.int .i64 2))) (fun x9 =>
  bvK x9 (fun b10 => bK b10
 (optK (rdFieldAddr P 31 (some (eptrV a0)) 1) (fun x11 =>
  optK (rdLoad P H 9 (some x11)) (fun x12 =>
  callQ (.call 118 [x12] false none H nx) (fun x13 H nx =>
  .ret ⟨.ret x13, false, H, nx⟩) panK) .bad) .bad)
 (optK (rdFieldAddr P 31 (some (eptrV a0)) 1) (fun x14 =>
  optK (rdLoad P H 9 (some x14)) (fun x15 =>
  .ret ⟨.ret x15, false, H, nx⟩) .bad) .bad)) .bad) .bad)) .bad) .bad)) .bad) .bad) .bad) .bad) := by kernel_rfl
def l72_9 (t1 t2 t5 t6 : Value) (H : T OB) (nx : Nat) : Cfg := .at ⟨72, 36, false, [], none, false⟩ (tmOf [(1, t1), (2, t2), (5, t5), (6, t6)]) (todoOf P 72 9) H nx
theorem q72 (a0 a1 : Value) (H : T OB) (nx : Nat) : evT P pl (.call 72 [a0, a1] false none H nx) =
 natF (Nat.succ nx) (fun nx =>
 optK (rdFieldAddr P 47 (some (eptrV a0)) 2) (fun x0 =>
 optK (rdLoad P H 9 (some x0)) (fun x1 =>
 optK (rdLen P #[9] 3 (some [x1])) (fun x2 =>
 optK (rdBin P H .quo 3 true (some x2) (some (.int .i64 8))) (fun x3 =>
 optK (rdBin P H .add 3 true (some (.int .i64 1)) (some x3)) (fun x4 =>
 .jump (l72_9 a1 (eptrV a0) x4 (.int .i64 0) H nx)) .bad) .bad) .bad) .bad) .bad) := by kernel_rfl
theorem q72_9 (t1 t2 t5 t6 : Value) (H : T OB) (nx : Nat) : evT P pl (l72_9 t1 t2 t5 t6 H nx) =
 optK (rdFieldAddr P 47 (some t2) 3) (fun x0 =>
 optK (rdLoad P H 42 (some x0)) (fun x1 =>
 optK (rdLen P #[42] 3 (some [x1])) (fun x2 =>
 optK (rdBin P H .lss 3 false (some t6) (some x2)) (fun x3 =>
 bvK x3 (fun b4 => bK b4 (optK (rdBin P H .leq 3 false (some t5) (some t1)) (fun x5 =>
 bvK x5 (fun b6 => bK b6
 (optK (rdFieldAddr P 47 (some t2) 3) (fun x7 =>
  optK (rdLoad P H 42 (some x7)) (fun x8 =>
  optK (rdIndexAddr P 42 (some x8) (some t6)) (fun x9 =>
  optK (rdLoad P H 47 (some x9)) (fun x10 =>
  optK (rdBin P H .sub 3 false (some t1) (some t5)) (fun x11 =>
  callQ (.call 72 [x10, x11] false none H nx) (fun x12 H nx =>
  optK (rdBin P H .add 3 false (some t5) (some x12)) (fun x13 =>
  optK (rdBin P H .add 3 true (some t6) (some (.int .i64 1))) (fun x14 =>
  .jump (l72_9 t1 t2 x13 x14 H nx)) .bad) .bad) panK) .bad) .bad) .bad) .bad) .bad)
 (.ret ⟨.ret t5, false, H, nx⟩)) .bad) .bad) (.ret ⟨.ret t5, false, H, nx⟩)) .bad) .bad) .bad) .bad) .bad := by kernel_rfl
end
end Go.Proofs.YthjhonhhbddhkaaGreatDoor
/- What functions of the program say, as trees. -/
namespace Go.Proofs.YthjhonhhbddhkaaGreatDoor
open Go.Ev Go.RowKit
noncomputable section
set_option linter.unusedVariables false
set_option maxHeartbeats 8000000
def l73_9 (t1 t2 t5 t6 : Value) (H : T OB) (nx : Nat) : Cfg := .at ⟨73, 67, false, [], none, false⟩ (tmOf [(1, t1), (2, t2), (5, t5), (6, t6)]) (todoOf P 73 9) H nx
def l73_17 (t1 t2 t5 t7 : Value) (H : T OB) (nx : Nat) : Cfg := .at ⟨73, 67, false, [], none, false⟩ (tmOf [(1, t1), (2, t2), (5, t5), (7, t7)]) (todoOf P 73 17) H nx
theorem q73 (a0 a1 : Value) (H : T OB) (nx : Nat) : evT P pl (.call 73 [a0, a1] false none H nx) =
 natF (Nat.succ nx) (fun nx =>
 optK (rdFieldAddr P 44 (some (eptrV a0)) 2) (fun x0 =>
 optK (rdLoad P H 9 (some x0)) (fun x1 =>
 optK (rdLen P #[9] 3 (some [x1])) (fun x2 =>
 optK (rdBin P H .quo 3 true (some x2) (some (.int .i64 8))) (fun x3 =>
 optK (rdBin P H .add 3 true (some (.int .i64 1)) (some x3)) (fun x4 =>
 .jump (l73_9 a1 (eptrV a0) x4 (.int .i64 0) H nx)) .bad) .bad) .bad) .bad) .bad) := by kernel_rfl
theorem q73_9 (t1 t2 t5 t6 : Value) (H : T OB) (nx : Nat) : evT P pl (l73_9 t1 t2 t5 t6 H nx) =
 optK (rdFieldAddr P 44 (some t2) 3) (fun x0 =>
 optK (rdLoad P H 41 (some x0)) (fun x1 =>
 optK (rdLen P #[41] 3 (some [x1])) (fun x2 =>
 optK (rdBin P H .lss 3 false (some t6) (some x2)) (fun x3 =>
 bvK x3 (fun b4 => bK b4 (optK (rdBin P H .leq 3 false (some t5) (some t1)) (fun x5 =>
 bvK x5 (fun b6 => bK b6
 (optK (rdFieldAddr P 44 (some t2) 3) (fun x7 =>
  optK (rdLoad P H 41 (some x7)) (fun x8 =>
  optK (rdIndexAddr P 41 (some x8) (some t6)) (fun x9 =>
  optK (rdLoad P H 44 (some x9)) (fun x10 =>
  optK (rdBin P H .sub 3 false (some t1) (some t5)) (fun x11 =>
  callQ (.call 73 [x10, x11] false none H nx) (fun x12 H nx =>
  optK (rdBin P H .add 3 false (some t5) (some x12)) (fun x13 =>
  optK (rdBin P H .add 3 true (some t6) (some (.int .i64 1))) (fun x14 =>
  .jump (l73_9 t1 t2 x13 x14 H nx)) .bad) .bad) panK) .bad) .bad) .bad) .bad) .bad)
 (.jump (l73_17 t1 t2 t5 (.int .i64 0) H nx))) .bad) .bad) (.jump (l73_17 t1 t2 t5 (.int .i64 0) H nx))) .bad) .bad) .bad) .bad) .bad := by kernel_rfl
theorem q73_17 (t1 t2 t5 t7 : Value) (H : T OB) (nx : Nat) : evT P pl (l73_17 t1 t2 t5 t7 H nx) =
 optK (rdFieldAddr P 44 (some t2) 4) (fun x0 =>
 optK (rdLoad P H 42 (some x0)) (fun x1 =>
 optK (rdLen P #[42] 3 (some [x1])) (fun x2 =>
 optK (rdBin P H .lss 3 false (some t7) (some x2)) (fun x3 =>
 bvK x3 (fun b4 => bK b4 (optK (rdBin P H .leq 3 false (some t5) (some t1)) (fun x5 =>
 bvK x5 (fun b6 => bK b6
 (optK (rdFieldAddr P 44 (some t2) 4) (fun x7 =>
  optK (rdLoad P H 42 (some x7)) (fun x8 =>
  optK (rdIndexAddr P 42 (some x8) (some t7)) (fun x9 =>
  optK (rdLoad P H 47 (some x9)) (fun x10 =>
  optK (rdBin P H .sub 3 false (some t1) (some t5)) (fun x11 =>
  callQ (.call 72 [x10, x11] false none H nx) (fun x12 H nx =>
  optK (rdBin P H .add 3 false (some t5) (some x12)) (fun x13 =>
  optK (rdBin P H .add 3 true (some t7) (some (.int .i64 1))) (fun x14 =>
  .jump (l73_17 t1 t2 x13 x14 H nx)) .bad) .bad) panK) .bad) .bad) .bad) .bad) .bad)
 (optK (rdFieldAddr P 44 (some t2) 5) (fun x15 =>
  optK (rdLoad P H 24 (some x15)) (fun x16 =>
  optK (rdBin P H .sub 3 false (some t1) (some t5)) (fun x17 =>
  callQ (.call 41 [x16, x17] false none H nx) (fun x18 H nx =>
  optK (rdBin P H .add 3 false (some t5) (some x18)) (fun x19 =>
  .ret ⟨.ret x19, false, H, nx⟩) .bad) panK) .bad) .bad) .bad)) .bad) .bad) (optK (rdFieldAddr P 44 (some t2) 5) (fun x20 =>
  optK (rdLoad P H 24 (some x20)) (fun x21 =>
  optK (rdBin P H .sub 3 false (some t1) (some t5)) (fun x22 =>
  callQ (.call 41 [x21, x22] false none H nx) (fun x23 H nx =>
  optK (rdBin P H .add 3 false (some t5) (some x23)) (fun x24 =>
  .ret ⟨.ret x24, false, H, nx⟩) .bad) panK) .bad) .bad) .bad)) .bad) .bad) .bad) .bad) .bad := by kernel_rfl
def l74_9 (t1 t2 t5 t6 : Value) (H : T OB) (nx : Nat) : Cfg := .at ⟨74, 36, false, [], none, false⟩ (tmOf [(1, t1), (2, t2), (5, t5), (6, t6)]) (todoOf P 74 9) H nx
theorem q74 (a0 a1 : Value) (H : T OB) (nx : Nat) : evT P pl (.call 74 [a0, a1] false none H nx) =
 natF (Nat.succ nx) (fun nx =>
 optK (rdFieldAddr P 55 (some (eptrV a0)) 0) (fun x0 =>
 optK (rdLoad P H 9 (some x0)) (fun x1 =>
 optK (rdLen P #[9] 3 (some [x1])) (fun x2 =>
 optK (rdBin P H .quo 3 true (some x2) (some (.int .i64 8))) (fun x3 =>
 optK (rdBin P H .add 3 true (some (.int .i64 1)) (some x3)) (fun x4 =>
 .jump (l74_9 a1 (eptrV a0) x4 (.int .i64 0) H nx)) .bad) .bad) .bad) .bad) .bad) := by kernel_rfl
theorem q74_9 (t1 t2 t5 t6 : Value) (H : T OB) (nx : Nat) : evT P pl (l74_9 t1 t2 t5 t6 H nx) =
 optK (rdFieldAddr P 55 (some t2) 1) (fun x0 =>
 optK (rdLoad P H 53 (some x0)) (fun x1 =>
 optK (rdLen P #[53] 3 (some [x1])) (fun x2 =>
 optK (rdBin P H .lss 3 false (some t6) (some x2)) (fun x3 =>
 bvK x3 (fun b4 => bK b4 (optK (rdBin P H .leq 3 false (some t5) (some t1)) (fun x5 =>
 bvK x5 (fun b6 => bK b6
 (optK (rdFieldAddr P 55 (some t2) 1) (fun x7 =>
  optK (rdLoad P H 53 (some x7)) (fun x8 =>
  optK (rdIndexAddr P 53 (some x8) (some t6)) (fun x9 =>
  optK (rdLoad P H 138 (some x9)) (fun x10 =>
  optK (rdBin P H .sub 3 false (some t1) (some t5)) (fun x11 =>
  callQ (.call 126 [x10, x11] false none H nx) (fun x12 H nx =>
  optK (rdBin P H .add 3 false (some t5) (some x12)) (fun x13 =>
  optK (rdBin P H .add 3 true (some t6) (some (.int .i64 1))) (fun x14 =>
  .jump (l74_9 t1 t2 x13 x14 H nx)) .bad) .bad) panK) .bad) .bad) .bad) .bad) .bad)
 (.ret ⟨.ret t5, false, H, nx⟩)) .bad) .bad) (.ret ⟨.ret t5, false, H, nx⟩)) .bad) .bad) .bad) .bad) .bad := by kernel_rfl
def l75_24 (t0 t3 : Value) (H : T OB) (nx : Nat) : Cfg := .at ⟨75, 129, false, [], none, false⟩ (tmOf [(0, t0), (3, t3)]) (todoOf P 75 24) H nx
def l75_27 (t0 t48 t49 t50 : Value) (H : T OB) (nx : Nat) : Cfg := .at ⟨75, 129, false, [], none, false⟩ (tmOf [(0, t0), (48, t48), (49, t49), (50, t50)]) (todoOf P 75 27) H nx
def l75_39 (t0 t5 t48 t49 t50 t76 t77 t78 : Value) (H : T OB) (nx : Nat) : Cfg := .at ⟨75, 129, false, [], none, false⟩ (tmOf [(0, t0), (5, t5), (48, t48), (49, t49), (50, t50), (76, t76), (77, t77), (78, t78)]) (todoOf P 75 39) H nx
theorem q75 (a0 a1 : Value) (H : T OB) (nx : Nat) : evT P pl (.call 75 [a0, a1] false none H nx) =
 natF (Nat.succ nx) (fun nx =>
 optK (rdFieldAddr P 57 (some (eptrV a1)) 0) (fun x0 =>
 optK (rdLoad P H 3 (some x0)) (fun x1 =>
 optK (rdBin P H .eql 3 true (some x1) (some (.int .i64 1))) (fun x2 =>
 bvK x2 (fun b3 => bK b3
 (optK (rdLoad P H 57 (some (eptrV a1))) (fun x4 =>
  callQ (.call 128 [x4, (.bool false), (.bool false), (.bool true), (.bool true), (.bool true)] false none H nx) (fun x5 H nx =>
  bvK x5 (fun b6 => callQ (.call 127 [a0, (.bool b6)] false none H nx) (fun x7 H nx =>
  callQ (.call 129 [(.string ⟨⟨[118, 97, 108]⟩⟩)] false none H nx) (fun x8 H nx =>
  effQ (efBuildSlice P H nx 29 1 (some [(0, x8)])) (fun x9 H nx =>
  callQ (.call 76 [a0, x9] false none H nx) (fun x10 H nx =>
  optK (rdFieldAddr P 57 (some (eptrV a1)) 1) (fun x11 =>
  optK (rdLoad P H 47 (some x11)) (fun x12 =>
  callQ (.call 130 [a0, x12] false none H nx) (fun x13 H nx =>
  callQ (.call 77 [(.string ⟨⟨[61]⟩⟩)] false none H nx) (fun x14 H nx =>
  effQ (efBuildSlice P H nx 29 1 (some [(0, x14)])) (fun x15 H nx =>
  callQ (.call 76 [a0, x15] false none H nx) (fun x16 H nx =>
  optK (rdFieldAddr P 57 (some (eptrV a1)) 2) (fun x17 =>
  optK (rdLoad P H 44 (some x17)) (fun x18 =>
  callQ (.call 131 [a0, x18] false none H nx) (fun x19 H nx =>
  .ret ⟨.ret (.tuple ⟨[]⟩), false, H, nx⟩) panK) .bad) .bad) panK)) panK) panK) .bad) .bad) panK)) panK) panK) .bad) panK) .bad)
 (optK (rdBin P H .eql 3 true (some x1) (some (.int .i64 2))) (fun x20 =>
  bvK x20 (fun b21 => bK b21
 (optK (rdLoad P H 57 (some (eptrV a1))) (fun x22 =>
  callQ (.call 128 [x22, (.bool true), (.bool true), (.bool false), (.bool true), (.bool true)] false none H nx) (fun x23 H nx =>
  bvK x23 (fun b24 => bK b24 (optK (rdFieldAddr P 57 (some (eptrV a1)) 3) (fun x25 =>
  optK (rdLoad P H 48 (some x25)) (fun x26 =>
  optK (rdLen P #[48] 3 (some [x26])) (fun x27 =>
  optK (rdBin P H .gtr 3 true (some x27) (some (.int .i64 0))) (fun x28 =>
  bvK x28 (fun b29 => callQ (.call 127 [a0, (.bool b29)] false none H nx) (fun x30 H nx =>
  .jump (l75_24 a0 (eptrV a1) H nx)) panK) .bad) .bad) .bad) .bad) .bad) (callQ (.call 127 [a0, (.bool false)] false none H nx) (fun x31 H nx =>
  .jump (l75_24 a0 (eptrV a1) H nx)) panK)) .bad) panK) .bad)
 (optK (rdBin P H .eql 3 true (some x1) (some (.int .i64 3))) (fun x32 =>
  bvK x32 (fun b33 => bK b33
 (optK (rdLoad P H 57 (some (eptrV a1))) (fun x34 =>
  callQ (.call 128 [x34, (.bool true), (.bool true), (.bool true), (.bool false), (.bool true)] false none H nx) (fun x35 H nx =>
  bvK x35 (fun b36 => callQ (.call 127 [a0, (.bool b36)] false none H nx) (fun x37 H nx =>
  optK (rdFieldAddr P 57 (some (eptrV a1)) 4) (fun x38 =>
  optK (rdLoad P H 52 (some x38)) (fun x39 =>
  callQ (.call 134 [a0, x39] false none H nx) (fun x40 H nx =>
  .ret ⟨.ret (.tuple ⟨[]⟩), false, H, nx⟩) panK) .bad) .bad) panK) .bad) panK) .bad)
 (optK (rdBin P H .eql 3 true (some x1) (some (.int .i64 4))) (fun x41 =>
  bvK x41 (fun b42 => bK b42
 (optK (rdLoad P H 57 (some (eptrV a1))) (fun x43 =>
  callQ (.call 128 [x43, (.bool true), (.bool true), (.bool true), (.bool true), (.bool false)] false none H nx) (fun x44 H nx =>
  bvK x44 (fun b45 => callQ (.call 127 [a0, (.bool b45)] false none H nx) (fun x46 H nx =>
  callQ (.call 129 [(.string ⟨⟨[101, 120, 99, 101, 112, 116, 105, 111, 110]⟩⟩)] false none H nx) (fun x47 H nx =>
  effQ (efBuildSlice P H nx 29 1 (some [(0, x47)])) (fun x48 H nx =>
  callQ (.call 76 [a0, x48] false none H nx) (fun x49 H nx =>
  optK (rdFieldAddr P 57 (some (eptrV a1)) 5) (fun x50 =>
  optK (rdLoad P H 55 (some x50)) (fun x51 =>
  callQ (.call 135 [a0, x51] false none H nx) (fun x52 H nx =>
  .ret ⟨.ret (.tuple ⟨[]⟩), false, H, nx⟩) panK) .bad) .bad) panK)) panK) panK) .bad) panK) .bad)
 (optK (rdBin P H .eql 3 true (some x1) (some (.int .i64 5))) (fun x53 =>
  bvK x53 (fun b54 => bK b54
 (optK (rdLoad P H 57 (some (eptrV a1))) (fun x55 =>
  callQ (.call 128 [x55, (.bool true), (.bool false), (.bool true), (.bool true), (.bool true)] false none H nx) (fun x56 H nx =>
  bvK x56 (fun b57 => callQ (.call 127 [a0, (.bool b57)] false none H nx) (fun x58 H nx =>
  optK (rdFieldAddr P 57 (some (eptrV a1)) 2) (fun x59 =>
  optK (rdLoad P H 44 (some x59)) (fun x60 =>
  callQ (.call 131 [a0, x60] false none H nx) (fun x61 H nx =>
  .ret ⟨.ret (.tuple ⟨[]⟩), false, H, nx⟩) panK) .bad) .bad) panK) .bad) panK) .bad)
 (optK (rdNil (some a0)) (fun x62 =>
  optK (rdFieldAddr P 116 (some x62) 1) (fun x63 =>
  effQ (efStore P H nx 4 (some x63) (some (.bool true))) (fun x64 H nx =>
  .ret ⟨.ret (.tuple ⟨[]⟩), false, H, nx⟩)) .bad) .bad)) .bad) .bad)) .bad) .bad)) .bad) .bad)) .bad) .bad)) .bad) .bad) .bad) .bad) := by kernel_rfl
theorem q75_24 (t0 t3 : Value) (H : T OB) (nx : Nat) : evT P pl (l75_24 t0 t3 H nx) =
 optK (rdFieldAddr P 57 (some t3) 3) (fun x0 =>
 optK (rdLoad P H 48 (some x0)) (fun x1 =>
 optK (rdLen P #[48] 3 (some [x1])) (fun x2 =>
 .jump (l75_27 t0 x1 x2 (.int .i64 0) H nx)) .bad) .bad) .bad := by kernel_rfl
theorem q75_27 (t0 t48 t49 t50 : Value) (H : T OB) (nx : Nat) : evT P pl (l75_27 t0 t48 t49 t50 H nx) =
 optK (rdBin P H .lss 3 false (some t50) (some t49)) (fun x0 =>
 bvK x0 (fun b1 => bK b1
 (optK (rdIndexAddr P 48 (some t48) (some t50)) (fun x2 =>
  optK (rdLoad P H 65 (some x2)) (fun x3 =>
  effQ (efAlloc P H nx 65) (fun x4 H nx =>
  frSt P H nx 65 (some x4) x3 (fun H nx =>
  effQ (efMakeMap H nx) (fun x5 H nx =>
  effQ (efMapUpdate P H nx 163 (some x5) (some (.bool true)) (some (.string ⟨⟨[102, 117, 110]⟩⟩))) (fun x6 H nx =>
  effQ (efMapUpdate P H nx 163 (some x5) (some (.bool false)) (some (.string ⟨⟨[97, 110, 100]⟩⟩))) (fun x7 H nx =>
  optK (rdBin P H .eql 3 true (some t50) (some (.int .i64 0))) (fun x8 =>
  bvK x8 (fun b9 => optK (rdLookup P H 163 (some x5) (some (.bool b9)) false) (fun x10 =>
  callQ (.call 129 [x10] false none H nx) (fun x11 H nx =>
  effQ (efBuildSlice P H nx 29 1 (some [(0, x11)])) (fun x12 H nx =>
  callQ (.call 76 [t0, x12] false none H nx) (fun x13 H nx =>
  optK (rdFieldAddr P 65 (some (eptrV x3)) 0) (fun x14 =>
  optK (rdLoad P H 9 (some x14)) (fun x15 =>
  optK (rdBuild P 31 (some [(0, (.int .i64 3)), (1, x15)])) (fun x16 =>
  callQ (.call 132 [t0, x16] false none H nx) (fun x17 H nx =>
  optK (rdFieldAddr P 65 (some (eptrV x3)) 1) (fun x18 =>
  optK (rdLoad P H 42 (some x18)) (fun x19 =>
  optK (rdLen P #[42] 3 (some [x19])) (fun x20 =>
  optK (rdBin P H .gtr 3 true (some x20) (some (.int .i64 0))) (fun x21 =>
  bvK x21 (fun b22 => callQ (.call 127 [t0, (.bool b22)] false none H nx) (fun x23 H nx =>
  optK (rdFieldAddr P 65 (some (eptrV x3)) 1) (fun x24 =>
  optK (rdLoad P H 42 (some x24)) (fun x25 =>
  optK (rdLen P #[42] 3 (some [x25])) (fun x26 =>
  .jump (l75_39 t0 (eptrV x3) t48 t49 t50 x25 x26 (.int .i64 0) H nx)) .bad) .bad) .bad) panK) .bad) .bad) .bad) .bad) .bad) panK) .bad) .bad) .bad) panK)) panK) .bad) .bad) .bad)))))) .bad) .bad)
 (.ret ⟨.ret (.tuple ⟨[]⟩), false, H, nx⟩)) .bad) .bad := by kernel_rfl
theorem q75_39 (t0 t5 t48 t49 t50 t76 t77 t78 : Value) (H : T OB) (nx : Nat) : evT P pl (l75_39 t0 t5 t48 t49 t50 t76 t77 t78 H nx) =
 optK (rdBin P H .lss 3 false (some t78) (some t77)) (fun x0 =>
 bvK x0 (fun b1 => bK b1
 (optK (rdIndexAddr P 42 (some t76) (some t78)) (fun x2 =>
  optK (rdLoad P H 47 (some x2)) (fun x3 =>
  effQ (efAlloc P H nx 47) (fun x4 H nx =>
  frSt P H nx 47 (some x4) x3 (fun H nx =>
  optK (rdLoad P H 47 (some (eptrV x3))) (fun x5 =>
  callQ (.call 133 [t0, x5] false none H nx) (fun x6 H nx =>
  optK (rdBin P H .add 3 true (some t78) (some (.int .i64 1))) (fun x7 =>
  .jump (l75_39 t0 t5 t48 t49 t50 t76 t77 x7 H nx)) .bad) panK) .bad))) .bad) .bad)
 (callQ (.call 77 [(.string ⟨⟨[61]⟩⟩)] false none H nx) (fun x8 H nx =>
  effQ (efBuildSlice P H nx 29 1 (some [(0, x8)])) (fun x9 H nx =>
  callQ (.call 76 [t0, x9] false none H nx) (fun x10 H nx =>
  optK (rdFieldAddr P 65 (some t5) 2) (fun x11 =>
  optK (rdLoad P H 44 (some x11)) (fun x12 =>
  callQ (.call 131 [t0, x12] false none H nx) (fun x13 H nx =>
  optK (rdBin P H .add 3 true (some t50) (some (.int .i64 1))) (fun x14 =>
  .jump (l75_27 t0 t48 t49 x14 H nx)) .bad) panK) .bad) .bad) panK)) panK)) .bad) .bad := by kernel_rfl
theorem q76 (a0 a1 : Value) (H : T OB) (nx : Nat) : evT P pl (.call 76 [a0, a1] false none H nx) =
 frzV P 29 a1 H nx (fun x0 H nx =>
 optK (rdNil (some a0)) (fun x1 =>
 optK (rdFieldAddr P 116 (some x1) 0) (fun x2 =>
 optK (rdLoad P H 29 (some x2)) (fun x3 =>
 effQ (efAppS P H nx [29, 29] (some [x3, x0])) (fun x4 H nx =>
 optK (rdNil (some a0)) (fun x5 =>
 optK (rdFieldAddr P 116 (some x5) 0) (fun x6 =>
 effQ (efStore P H nx 29 (some x6) (some x4)) (fun x7 H nx =>
 .ret ⟨.ret (.tuple ⟨[]⟩), false, H, nx⟩)) .bad) .bad)) .bad) .bad) .bad) := by kernel_rfl
theorem q77 (a0 : Value) (H : T OB) (nx : Nat) : evT P pl (.call 77 [a0] false none H nx) =
 effQ (efAlloc P H nx 31) (fun x0 H nx =>
 optK (rdBuild P 31 (some [(0, (.int .i64 7)), (1, a0)])) (fun x1 =>
 effQ (efStore P H nx 31 (some x0) (some x1)) (fun x2 H nx =>
 optK (rdLoad P H 31 (some x0)) (fun x3 =>
 .ret ⟨.ret x3, false, H, nx⟩) .bad)) .bad) := by kernel_rfl
def l78_10 (t0 t3 : Value) (H : T OB) (nx : Nat) : Cfg := .at ⟨78, 33, false, [], none, false⟩ (tmOf [(0, t0), (3, t3)]) (todoOf P 78 10) H nx
def l78_15 (t0 t3 t4 t5 : Value) (H : T OB) (nx : Nat) : Cfg := .at ⟨78, 33, false, [], none, false⟩ (tmOf [(0, t0), (3, t3), (4, t4), (5, t5)]) (todoOf P 78 15) H nx
def l78_28 (t4 t5 : Value) (H : T OB) (nx : Nat) : Cfg := .at ⟨78, 33, false, [], none, false⟩ (tmOf [(4, t4), (5, t5)]) (todoOf P 78 28) H nx
theorem q78 (a0 : Value) (H : T OB) (nx : Nat) : evT P pl (.call 78 [a0] false none H nx) =
 optK (rdConv P H 2 167 (some a0)) (fun x0 =>
 optK (rdBin P H .lss 2 true (some a0) (some (.int .i64 0))) (fun x1 =>
 bvK x1 (fun b2 => bK b2
 (optK (unV P .neg (some x0)) (fun x3 =>
  .jump (l78_10 a0 x3 H nx)) .bad)
 (.jump (l78_10 a0 x0 H nx))) .bad) .bad) .bad := by kernel_rfl
theorem q78_10 (t0 t3 : Value) (H : T OB) (nx : Nat) : evT P pl (l78_10 t0 t3 H nx) =
 effQ (efAlloc P H nx 168) (fun x0 H nx =>
 .jump (l78_15 t0 t3 x0 (.int .i64 20) H nx)) := by kernel_rfl
theorem q78_15 (t0 t3 t4 t5 : Value) (H : T OB) (nx : Nat) : evT P pl (l78_15 t0 t3 t4 t5 H nx) =
 optK (rdBin P H .sub 3 true (some t5) (some (.int .i64 1))) (fun x0 =>
 optK (rdBin P H .rem 167 true (some t3) (some (.int .u64 10))) (fun x1 =>
 optK (rdBin P H .add 167 true (some (.int .u64 48)) (some x1)) (fun x2 =>
 optK (rdConv P H 167 5 (some x2)) (fun x3 =>
 optK (rdIndexAddr P 168 (some t4) (some x0)) (fun x4 =>
 effQ (efStore P H nx 5 (some x4) (some x3)) (fun x5 H nx =>
 optK (rdBin P H .quo 167 true (some t3) (some (.int .u64 10))) (fun x6 =>
 optK (rdBin P H .eql 167 true (some x6) (some (.int .u64 0))) (fun x7 =>
 bvK x7 (fun b8 => bK b8
 (optK (rdBin P H .lss 2 true (some t0) (some (.int .i64 0))) (fun x9 =>
  bvK x9 (fun b10 => bK b10
 (optK (rdBin P H .sub 3 true (some x0) (some (.int .i64 1))) (fun x11 =>
  optK (rdIndexAddr P 168 (some t4) (some x11)) (fun x12 =>
  effQ (efStore P H nx 5 (some x12) (some (.int .u8 45))) (fun x13 H nx =>
  .jump (l78_28 t4 x11 H nx))) .bad) .bad)
 (.jump (l78_28 t4 x0 H nx))) .bad) .bad)
 (.jump (l78_15 t0 x6 t4 x0 H nx))) .bad) .bad) .bad)) .bad) .bad) .bad) .bad) .bad := by kernel_rfl
theorem q78_28 (t4 t5 : Value) (H : T OB) (nx : Nat) : evT P pl (l78_28 t4 t5 H nx) =
 optK (rdSlice P H 168 (some t4) (some (some t5)) (some none) (some none)) (fun x0 =>
 optK (rdConv P H 120 9 (some x0)) (fun x1 =>
 .ret ⟨.ret x1, false, H, nx⟩) .bad) .bad := by kernel_rfl
def l79_9 (t0 t3 t4 : Value) (H : T OB) (nx : Nat) : Cfg := .at ⟨79, 62, false, [], none, false⟩ (tmOf [(0, t0), (3, t3), (4, t4)]) (todoOf P 79 9) H nx
def l79_18 (t0 t3 t4 t5 : Value) (t20 : Bool) (H : T OB) (nx : Nat) : Cfg := .at ⟨79, 62, false, [], none, false⟩ (tmOf [(0, t0), (3, t3), (4, t4), (5, t5), (20, .bool t20)]) (todoOf P 79 18) H nx
def l79_30 (t0 t3 t4 t5 : Value) (t43 : Bool) (H : T OB) (nx : Nat) : Cfg := .at ⟨79, 62, false, [], none, false⟩ (tmOf [(0, t0), (3, t3), (4, t4), (5, t5), (43, .bool t43)]) (todoOf P 79 30) H nx
theorem q79 (a0 : Value) (H : T OB) (nx : Nat) : evT P pl (.call 79 [a0] false none H nx) =
 effQ (efBuildSlice P H nx 120 1 (some [(0, (.int .u8 34))])) (fun x0 H nx =>
 .jump (l79_9 a0 x0 (.int .i64 0) H nx)) := by kernel_rfl
theorem q79_9 (t0 t3 t4 : Value) (H : T OB) (nx : Nat) : evT P pl (l79_9 t0 t3 t4 H nx) =
 optK (rdLen P #[9] 3 (some [t0])) (fun x0 =>
 optK (rdBin P H .lss 3 false (some t4) (some x0)) (fun x1 =>
 bvK x1 (fun b2 => bK b2
 (optK (rdIndex P 9 (some t0) (some t4)) (fun x3 =>
  optK (rdBin P H .eql 5 true (some x3) (some (.int .u8 34))) (fun x4 =>
  bvK x4 (fun b5 => bK b5 (.jump (l79_18 t0 t3 t4 x3 true H nx)) (optK (rdBin P H .eql 5 true (some x3) (some (.int .u8 92))) (fun x6 =>
  bvK x6 (fun b7 => .jump (l79_18 t0 t3 t4 x3 b7 H nx)) .bad) .bad)) .bad) .bad) .bad)
 (effQ (efBuildSlice P H nx 120 1 (some [(0, (.int .u8 34))])) (fun x8 H nx =>
  effQ (efAppS P H nx [120, 120] (some [t3, x8])) (fun x9 H nx =>
  frzV P 120 x9 H nx (fun x10 H nx =>
  .ret ⟨.ret x10, false, H, nx⟩))))) .bad) .bad) .bad := by kernel_rfl
theorem q79_18 (t0 t3 t4 t5 : Value) (t20 : Bool) (H : T OB) (nx : Nat) : evT P pl (l79_18 t0 t3 t4 t5 t20 H nx) =
 bK t20
 (effQ (efBuildSlice P H nx 120 2 (some [(0, (.int .u8 92)), (1, t5)])) (fun x0 H nx =>
  effQ (efAppS P H nx [120, 120] (some [t3, x0])) (fun x1 H nx =>
  optK (rdBin P H .add 3 true (some t4) (some (.int .i64 1))) (fun x2 =>
  .jump (l79_9 t0 x1 x2 H nx)) .bad)))
 (optK (rdBin P H .eql 5 true (some t5) (some (.int .u8 10))) (fun x3 =>
  bvK x3 (fun b4 => bK b4
 (effQ (efBuildSlice P H nx 120 2 (some [(0, (.int .u8 92)), (1, (.int .u8 110))])) (fun x5 H nx =>
  effQ (efAppS P H nx [120, 120] (some [t3, x5])) (fun x6 H nx =>
  optK (rdBin P H .add 3 true (some t4) (some (.int .i64 1))) (fun x7 =>
  .jump (l79_9 t0 x6 x7 H nx)) .bad)))
 (optK (rdBin P H .eql 5 true (some t5) (some (.int .u8 9))) (fun x8 =>
  bvK x8 (fun b9 => bK b9
 (effQ (efBuildSlice P H nx 120 2 (some [(0, (.int .u8 92)), (1, (.int .u8 116))])) (fun x10 H nx =>
  effQ (efAppS P H nx [120, 120] (some [t3, x10])) (fun x11 H nx =>
  optK (rdBin P H .add 3 true (some t4) (some (.int .i64 1))) (fun x12 =>
  .jump (l79_9 t0 x11 x12 H nx)) .bad)))
 (optK (rdBin P H .lss 5 true (some t5) (some (.int .u8 32))) (fun x13 =>
  bvK x13 (fun b14 => bK b14 (.jump (l79_30 t0 t3 t4 t5 true H nx)) (optK (rdBin P H .gtr 5 true (some t5) (some (.int .u8 126))) (fun x15 =>
  bvK x15 (fun b16 => .jump (l79_30 t0 t3 t4 t5 b16 H nx)) .bad) .bad)) .bad) .bad)) .bad) .bad)) .bad) .bad) := by kernel_rfl
theorem q79_30 (t0 t3 t4 t5 : Value) (t43 : Bool) (H : T OB) (nx : Nat) : evT P pl (l79_30 t0 t3 t4 t5 t43 H nx) =
 bK t43
 (optK (rdBin P H .shr 5 true (some t5) (some (.int .u64 4))) (fun x0 =>
  optK (rdIndex P 9 (some (.string ⟨⟨[48, 49, 50, 51, 52, 53, 54, 55, 56, 57, 65, 66, 67, 68, 69, 70]⟩⟩)) (some x0)) (fun x1 =>
  optK (rdBin P H .and 5 true (some t5) (some (.int .u8 15))) (fun x2 =>
  optK (rdIndex P 9 (some (.string ⟨⟨[48, 49, 50, 51, 52, 53, 54, 55, 56, 57, 65, 66, 67, 68, 69, 70]⟩⟩)) (some x2)) (fun x3 =>
  effQ (efBuildSlice P H nx 120 4 (some [(0, (.int .u8 92)), (1, (.int .u8 120)), (2, x1), (3, x3)])) (fun x4 H nx =>
  effQ (efAppS P H nx [120, 120] (some [t3, x4])) (fun x5 H nx =>
  optK (rdBin P H .add 3 true (some t4) (some (.int .i64 1))) (fun x6 =>
  .jump (l79_9 t0 x5 x6 H nx)) .bad))) .bad) .bad) .bad) .bad)
 (effQ (efBuildSlice P H nx 120 1 (some [(0, t5)])) (fun x7 H nx =>
  effQ (efAppS P H nx [120, 120] (some [t3, x7])) (fun x8 H nx =>
  optK (rdBin P H .add 3 true (some t4) (some (.int .i64 1))) (fun x9 =>
  .jump (l79_9 t0 x8 x9 H nx)) .bad))) := by kernel_rfl
def l80_40 (t1 : Value) (H : T OB) (nx : Nat) : Cfg := .at ⟨80, 63, false, [], none, false⟩ (tmOf [(1, t1)]) (todoOf P 80 40) H nx
theorem q80 (a0 : Value) (H : T OB) (nx : Nat) : evT P pl (.call 80 [a0] false none H nx) =
 natF (Nat.succ nx) (fun nx =>
 optK (rdFieldAddr P 47 (some (eptrV a0)) 0) (fun x0 =>
 optK (rdLoad P H 3 (some x0)) (fun x1 =>
 optK (rdBin P H .eql 3 true (some x1) (some (.int .i64 1))) (fun x2 =>
 bvK x2 (fun b3 => bK b3
 (.ret ⟨.ret (.string ⟨⟨[95]⟩⟩), false, H, nx⟩)
 (optK (rdBin P H .eql 3 true (some x1) (some (.int .i64 3))) (fun x4 =>
  bvK x4 (fun b5 => bK b5
 (optK (rdFieldAddr P 47 (some (eptrV a0)) 1) (fun x6 =>
  optK (rdLoad P H 2 (some x6)) (fun x7 =>
  optK (rdBin P H .lss 2 true (some x7) (some (.int .i64 0))) (fun x8 =>
  bvK x8 (fun b9 => bK b9
 (optK (rdFieldAddr P 47 (some (eptrV a0)) 1) (fun x10 =>
  optK (rdLoad P H 2 (some x10)) (fun x11 =>
  optK (unV P .neg (some x11)) (fun x12 =>
  callQ (.call 136 [x12] false none H nx) (fun x13 H nx =>
  optK (rdBin P H .add 9 true (some (.string ⟨⟨[126, 32]⟩⟩)) (some x13)) (fun x14 =>
  .ret ⟨.ret x14, false, H, nx⟩) .bad) panK) .bad) .bad) .bad)
 (optK (rdFieldAddr P 47 (some (eptrV a0)) 1) (fun x15 =>
  optK (rdLoad P H 2 (some x15)) (fun x16 =>
  callQ (.call 136 [x16] false none H nx) (fun x17 H nx =>
  .ret ⟨.ret x17, false, H, nx⟩) panK) .bad) .bad)) .bad) .bad) .bad) .bad)
 (optK (rdBin P H .eql 3 true (some x1) (some (.int .i64 4))) (fun x18 =>
  bvK x18 (fun b19 => bK b19
 (optK (rdFieldAddr P 47 (some (eptrV a0)) 2) (fun x20 =>
  optK (rdLoad P H 9 (some x20)) (fun x21 =>
  callQ (.call 118 [x21] false none H nx) (fun x22 H nx =>
  .ret ⟨.ret x22, false, H, nx⟩) panK) .bad) .bad)
 (optK (rdBin P H .eql 3 true (some x1) (some (.int .i64 5))) (fun x23 =>
  bvK x23 (fun b24 => bK b24
 (optK (rdFieldAddr P 47 (some (eptrV a0)) 3) (fun x25 =>
  optK (rdLoad P H 42 (some x25)) (fun x26 =>
  optK (rdLen P #[42] 3 (some [x26])) (fun x27 =>
  optK (rdBin P H .eql 3 true (some x27) (some (.int .i64 0))) (fun x28 =>
  bvK x28 (fun b29 => bK b29
 (.ret ⟨.ret (.string ⟨⟨[40, 32, 41]⟩⟩), false, H, nx⟩)
 (optK (rdFieldAddr P 47 (some (eptrV a0)) 3) (fun x30 =>
  optK (rdLoad P H 42 (some x30)) (fun x31 =>
  callQ (.call 82 [x31] false none H nx) (fun x32 H nx =>
  callQ (.call 83 [x32, (.string ⟨⟨[44]⟩⟩)] false none H nx) (fun x33 H nx =>
  callQ (.call 85 [x33] false none H nx) (fun x34 H nx =>
  .ret ⟨.ret x34, false, H, nx⟩) panK) panK) panK) .bad) .bad)) .bad) .bad) .bad) .bad) .bad)
 (optK (rdBin P H .eql 3 true (some x1) (some (.int .i64 6))) (fun x35 =>
  bvK x35 (fun b36 => bK b36
 (optK (rdFieldAddr P 47 (some (eptrV a0)) 2) (fun x37 =>
  optK (rdLoad P H 9 (some x37)) (fun x38 =>
  optK (rdBin P H .eql 9 true (some x38) (some (.string ⟨⟨[58, 58]⟩⟩))) (fun x39 =>
  bvK x39 (fun b40 => bK b40
 (optK (rdFieldAddr P 47 (some (eptrV a0)) 3) (fun x41 =>
  optK (rdLoad P H 42 (some x41)) (fun x42 =>
  optK (rdIndexAddr P 42 (some x42) (some (.int .i64 0))) (fun x43 =>
  optK (rdFieldAddr P 47 (some x43) 3) (fun x44 =>
  optK (rdLoad P H 42 (some x44)) (fun x45 =>
  callQ (.call 82 [x45] false none H nx) (fun x46 H nx =>
  callQ (.call 83 [x46, (.string ⟨⟨[58, 58]⟩⟩)] false none H nx) (fun x47 H nx =>
  .ret ⟨.ret x47, false, H, nx⟩) panK) panK) .bad) .bad) .bad) .bad) .bad)
 (optK (rdFieldAddr P 47 (some (eptrV a0)) 3) (fun x48 =>
  optK (rdLoad P H 42 (some x48)) (fun x49 =>
  optK (rdLen P #[42] 3 (some [x49])) (fun x50 =>
  optK (rdBin P H .eql 3 true (some x50) (some (.int .i64 1))) (fun x51 =>
  bvK x51 (fun b52 => bK b52
 (optK (rdFieldAddr P 47 (some (eptrV a0)) 2) (fun x53 =>
  optK (rdLoad P H 9 (some x53)) (fun x54 =>
  optK (rdBin P H .add 9 true (some x54) (some (.string ⟨⟨[32]⟩⟩))) (fun x55 =>
  optK (rdFieldAddr P 47 (some (eptrV a0)) 3) (fun x56 =>
  optK (rdLoad P H 42 (some x56)) (fun x57 =>
  optK (rdIndexAddr P 42 (some x57) (some (.int .i64 0))) (fun x58 =>
  optK (rdLoad P H 47 (some x58)) (fun x59 =>
  callQ (.call 137 [x59] false none H nx) (fun x60 H nx =>
  bK (optK (rdBin P H .add 9 true (some x54) (some (.string ⟨⟨[32]⟩⟩))) (fun u => vEq u x55) false && (optK (rdLoad P H 9 (some x53)) (fun u => vEq u x54) false && true)) (optK (rdBin P H .add 9 false (some x55) (some x60)) (fun x61 =>
  .ret ⟨.ret x61, false, H, nx⟩) .bad) .bad) panK) .bad) .bad) .bad) .bad) .bad) .bad) .bad)
 (.jump (l80_40 (eptrV a0) H nx))) .bad) .bad) .bad) .bad) .bad)) .bad) .bad) .bad) .bad)
 (.jump (l80_40 (eptrV a0) H nx))) .bad) .bad)) .bad) .bad)) .bad) .bad)) .bad) .bad)) .bad) .bad) .bad) .bad) := by kernel_rfl
theorem q80_40 (t1 : Value) (H : T OB) (nx : Nat) : evT P pl (l80_40 t1 H nx) =
 optK (rdFieldAddr P 47 (some t1) 2) (fun x0 =>
 optK (rdLoad P H 9 (some x0)) (fun x1 =>
 .ret ⟨.ret x1, false, H, nx⟩) .bad) .bad := by kernel_rfl
end
end Go.Proofs.YthjhonhhbddhkaaGreatDoor
