/- What functions of the program say, as trees. -/
import Derived.Test.YtfdgoenmdalphaaGreatDoorRa0
import Derived.KernelRfl
namespace Go.Proofs.YtfdgoenmdalphaaGreatDoor
open Go.Ev Go.RowKit
noncomputable section
set_option linter.unusedVariables false
set_option maxHeartbeats 8000000
/-! (*kindling/anf.reader).block -/
noncomputable def l45_7 (t0 : Value) (t2 : Value) (t3 : Bool) (t5 : Value) (t17 : Value) (t18 : Value) (t19 : Value) (H : T OB) (nx : Nat) : Cfg := .at ⟨45, 138, false, [], none, false⟩ (tmOf [(0, t0), (2, t2), (3, .bool t3), (5, t5), (17, t17), (18, t18), (19, t19)]) (todoOf P 45 7) H nx
noncomputable def l45_12 (t0 : Value) (t2 : Value) (t3 : Bool) (t5 : Value) (t10 : Value) (t17 : Value) (t18 : Value) (t19 : Value) (t34 : Bool) (H : T OB) (nx : Nat) : Cfg := .at ⟨45, 138, false, [], none, false⟩ (tmOf [(0, t0), (2, t2), (3, .bool t3), (5, t5), (10, t10), (17, t17), (18, t18), (19, t19), (34, .bool t34)]) (todoOf P 45 12) H nx
noncomputable def l45_45 (t0 : Value) (t2 : Value) (t3 : Bool) (t5 : Value) (t83 : Value) (t84 : Value) (t85 : Value) (H : T OB) (nx : Nat) : Cfg := .at ⟨45, 138, false, [], none, false⟩ (tmOf [(0, t0), (2, t2), (3, .bool t3), (5, t5), (83, t83), (84, t84), (85, t85)]) (todoOf P 45 45) H nx
noncomputable def l45_17 (t0 : Value) (t2 : Value) (t3 : Bool) (t5 : Value) (t10 : Value) (t17 : Value) (t18 : Value) (t19 : Value) (t36 : Value) (t37 : Value) (t38 : Value) (H : T OB) (nx : Nat) : Cfg := .at ⟨45, 138, false, [], none, false⟩ (tmOf [(0, t0), (2, t2), (3, .bool t3), (5, t5), (10, t10), (17, t17), (18, t18), (19, t19), (36, t36), (37, t37), (38, t38)]) (todoOf P 45 17) H nx
noncomputable def l45_60 (t3 : Bool) (t5 : Value) (t97 : Value) (t98 : Bool) (H : T OB) (nx : Nat) : Cfg := .at ⟨45, 138, false, [], none, false⟩ (tmOf [(3, .bool t3), (5, t5), (97, t97), (98, .bool t98)]) (todoOf P 45 60) H nx
noncomputable def l45_24 (t0 : Value) (t2 : Value) (t3 : Bool) (t5 : Value) (t10 : Value) (t12 : Value) (t13 : Value) (t17 : Value) (t18 : Value) (t19 : Value) (t36 : Value) (t37 : Value) (t38 : Value) (t50 : Bool) (H : T OB) (nx : Nat) : Cfg := .at ⟨45, 138, false, [], none, false⟩ (tmOf [(0, t0), (2, t2), (3, .bool t3), (5, t5), (10, t10), (12, t12), (13, t13), (17, t17), (18, t18), (19, t19), (36, t36), (37, t37), (38, t38), (50, .bool t50)]) (todoOf P 45 24) H nx
noncomputable def l45_34 (t0 : Value) (t2 : Value) (t3 : Bool) (t5 : Value) (t10 : Value) (t17 : Value) (t18 : Value) (t19 : Value) (t69 : Bool) (H : T OB) (nx : Nat) : Cfg := .at ⟨45, 138, false, [], none, false⟩ (tmOf [(0, t0), (2, t2), (3, .bool t3), (5, t5), (10, t10), (17, t17), (18, t18), (19, t19), (69, .bool t69)]) (todoOf P 45 34) H nx
theorem q45 (a0 : Value) (a1 : Value) (a2 : Value) (a3 : Bool) (H : T OB) (nx : Nat) : evT P pl (.call 45 [a0, a1, a2, .bool a3] false none H nx) =
  natF (Nat.succ nx) (fun nx =>
  optK (rdFieldAddr P 67 (some (eptrV a1)) 0) (fun x0 =>
  optK (rdLoad P H 63 (some x0)) (fun x1 =>
  optK (rdLen P #[63] 3 (some [x1])) (fun x2 =>
  .jump (l45_7 a0 a2 a3 (eptrV a1) x1 x2 (.int .i64 0) H nx)) .bad) .bad) .bad) := by kernel_rfl
theorem q45_7 (t0 : Value) (t2 : Value) (t3 : Bool) (t5 : Value) (t17 : Value) (t18 : Value) (t19 : Value) (H : T OB) (nx : Nat) : evT P pl (l45_7 t0 t2 t3 t5 t17 t18 t19 H nx) =
  optK (rdBin P H .lss 3 false (some t19) (some t18)) (fun x0 =>
  bvK x0 (fun b1 => bK b1
 (optK (rdIndexAddr P 63 (some t17) (some t19)) (fun x2 =>
  optK (rdLoad P H 125 (some x2)) (fun x3 =>
  effQ (efAlloc P H nx 125) (fun x4 H nx =>
  frSt P H nx 125 (some x4) x3 (fun H nx =>
  optK (rdLoad P H 125 (some (eptrV x3))) (fun x5 =>
  callQ (.call 78 [t0, x5] false none H nx) (fun x6 H nx =>
  bvK x6 (fun b7 => optK (unV P .not (some (.bool b7))) (fun x8 =>
  bvK x8 (fun b9 => bK b9 (.jump (l45_12 t0 t2 t3 t5 (eptrV x3) t17 t18 t19 true H nx)) (optK (rdFieldAddr P 125 (some (eptrV x3)) 3) (fun x10 =>
  optK (rdLoad P H 64 (some x10)) (fun x11 =>
  callQ (.call 79 [t0, x11, t2] false none H nx) (fun x12 H nx =>
  bvK x12 (fun b13 => optK (unV P .not (some (.bool b13))) (fun x14 =>
  bvK x14 (fun b15 => .jump (l45_12 t0 t2 t3 t5 (eptrV x3) t17 t18 t19 b15 H nx)) .bad) .bad) .bad) panK) .bad) .bad)) .bad) .bad) .bad) panK) .bad))) .bad) .bad)
 (optK (rdFieldAddr P 67 (some t5) 2) (fun x16 =>
  optK (rdLoad P H 64 (some x16)) (fun x17 =>
  callQ (.call 79 [t0, x17, t2] false none H nx) (fun x18 H nx =>
  bvK x18 (fun b19 => optK (unV P .not (some (.bool b19))) (fun x20 =>
  bvK x20 (fun b21 => bK b21
 (.ret ⟨.ret (.bool false), false, H, nx⟩)
 (optK (rdFieldAddr P 67 (some t5) 3) (fun x22 =>
  optK (rdLoad P H 65 (some x22)) (fun x23 =>
  optK (rdLen P #[65] 3 (some [x23])) (fun x24 =>
  .jump (l45_45 t0 t2 t3 t5 x23 x24 (.int .i64 0) H nx)) .bad) .bad) .bad)) .bad) .bad) .bad) panK) .bad) .bad)) .bad) .bad := by kernel_rfl
theorem q45_12 (t0 : Value) (t2 : Value) (t3 : Bool) (t5 : Value) (t10 : Value) (t17 : Value) (t18 : Value) (t19 : Value) (t34 : Bool) (H : T OB) (nx : Nat) : evT P pl (l45_12 t0 t2 t3 t5 t10 t17 t18 t19 t34 H nx) =
  bK t34
 (.ret ⟨.ret (.bool false), false, H, nx⟩)
 (optK (rdFieldAddr P 125 (some t10) 4) (fun x0 =>
  optK (rdLoad P H 65 (some x0)) (fun x1 =>
  optK (rdLen P #[65] 3 (some [x1])) (fun x2 =>
  .jump (l45_17 t0 t2 t3 t5 t10 t17 t18 t19 x1 x2 (.int .i64 0) H nx)) .bad) .bad) .bad) := by kernel_rfl
theorem q45_45 (t0 : Value) (t2 : Value) (t3 : Bool) (t5 : Value) (t83 : Value) (t84 : Value) (t85 : Value) (H : T OB) (nx : Nat) : evT P pl (l45_45 t0 t2 t3 t5 t83 t84 t85 H nx) =
  optK (rdBin P H .lss 3 false (some t85) (some t84)) (fun x0 =>
  bvK x0 (fun b1 => bK b1
 (optK (rdIndexAddr P 65 (some t83) (some t85)) (fun x2 =>
  optK (rdLoad P H 67 (some x2)) (fun x3 =>
  effQ (efAlloc P H nx 67) (fun x4 H nx =>
  frSt P H nx 67 (some x4) x3 (fun H nx =>
  optK (rdLoad P H 67 (some (eptrV x3))) (fun x5 =>
  callQ (.call 45 [t0, x5, t2, (.bool t3)] false none H nx) (fun x6 H nx =>
  bvK x6 (fun b7 => optK (unV P .not (some (.bool b7))) (fun x8 =>
  bvK x8 (fun b9 => bK b9
 (.ret ⟨.ret (.bool false), false, H, nx⟩)
 (optK (rdBin P H .add 3 true (some t85) (some (.int .i64 1))) (fun x10 =>
  .jump (l45_45 t0 t2 t3 t5 t83 t84 x10 H nx)) .bad)) .bad) .bad) .bad) panK) .bad))) .bad) .bad)
 (optK (rdFieldAddr P 67 (some t5) 1) (fun x11 =>
  optK (rdLoad P H 3 (some x11)) (fun x12 =>
  optK (rdBin P H .eql 3 true (some x12) (some (.int .i64 1))) (fun x13 =>
  bvK x13 (fun b14 => bK b14
 (.jump (l45_60 t3 t5 x12 b14 H nx))
 (optK (rdBin P H .eql 3 true (some x12) (some (.int .i64 3))) (fun x15 =>
  bvK x15 (fun b16 => .jump (l45_60 t3 t5 x12 b16 H nx)) .bad) .bad)) .bad) .bad) .bad) .bad)) .bad) .bad := by kernel_rfl
theorem q45_17 (t0 : Value) (t2 : Value) (t3 : Bool) (t5 : Value) (t10 : Value) (t17 : Value) (t18 : Value) (t19 : Value) (t36 : Value) (t37 : Value) (t38 : Value) (H : T OB) (nx : Nat) : evT P pl (l45_17 t0 t2 t3 t5 t10 t17 t18 t19 t36 t37 t38 H nx) =
  optK (rdBin P H .lss 3 false (some t38) (some t37)) (fun x0 =>
  bvK x0 (fun b1 => bK b1
 (optK (rdIndexAddr P 65 (some t36) (some t38)) (fun x2 =>
  optK (rdLoad P H 67 (some x2)) (fun x3 =>
  effQ (efAlloc P H nx 67) (fun x4 H nx =>
  frSt P H nx 67 (some x4) x3 (fun H nx =>
  optK (rdBin P H .eql 3 true (some t38) (some (.int .i64 1))) (fun x5 =>
  bvK x5 (fun b6 => bK b6 (optK (rdFieldAddr P 125 (some t10) 0) (fun x7 =>
  optK (rdLoad P H 3 (some x7)) (fun x8 =>
  optK (rdBin P H .eql 3 true (some x8) (some (.int .i64 10))) (fun x9 =>
  bvK x9 (fun b10 => .jump (l45_24 t0 t2 t3 t5 t10 (eptrV x3) t2 t17 t18 t19 t36 t37 t38 b10 H nx)) .bad) .bad) .bad) .bad) (.jump (l45_24 t0 t2 t3 t5 t10 (eptrV x3) t2 t17 t18 t19 t36 t37 t38 false H nx))) .bad) .bad))) .bad) .bad)
 (optK (rdFieldAddr P 125 (some t10) 0) (fun x11 =>
  optK (rdLoad P H 3 (some x11)) (fun x12 =>
  optK (rdBin P H .neq 3 true (some x12) (some (.int .i64 5))) (fun x13 =>
  bvK x13 (fun b14 => bK b14 (optK (rdFieldAddr P 125 (some t10) 0) (fun x15 =>
  optK (rdLoad P H 3 (some x15)) (fun x16 =>
  optK (rdBin P H .neq 3 true (some x16) (some (.int .i64 8))) (fun x17 =>
  bvK x17 (fun b18 => .jump (l45_34 t0 t2 t3 t5 t10 t17 t18 t19 b18 H nx)) .bad) .bad) .bad) .bad) (.jump (l45_34 t0 t2 t3 t5 t10 t17 t18 t19 false H nx))) .bad) .bad) .bad) .bad)) .bad) .bad := by kernel_rfl
theorem q45_60 (t3 : Bool) (t5 : Value) (t97 : Value) (t98 : Bool) (H : T OB) (nx : Nat) : evT P pl (l45_60 t3 t5 t97 t98 H nx) =
  bK t98
 (optK (rdFieldAddr P 67 (some t5) 2) (fun x0 =>
  optK (rdLoad P H 64 (some x0)) (fun x1 =>
  optK (rdLen P #[64] 3 (some [x1])) (fun x2 =>
  optK (rdBin P H .eql 3 true (some x2) (some (.int .i64 1))) (fun x3 =>
  bvK x3 (fun b4 => bK b4 (optK (rdFieldAddr P 67 (some t5) 3) (fun x5 =>
  optK (rdLoad P H 65 (some x5)) (fun x6 =>
  optK (rdLen P #[65] 3 (some [x6])) (fun x7 =>
  optK (rdBin P H .eql 3 true (some x7) (some (.int .i64 0))) (fun x8 =>
  bvK x8 (fun b9 => .ret ⟨.ret (.bool b9), false, H, nx⟩) .bad) .bad) .bad) .bad) .bad) (.ret ⟨.ret (.bool false), false, H, nx⟩)) .bad) .bad) .bad) .bad) .bad)
 (optK (rdBin P H .eql 3 true (some t97) (some (.int .i64 2))) (fun x10 =>
  bvK x10 (fun b11 => bK b11
 (bK t3 (optK (rdFieldAddr P 67 (some t5) 2) (fun x12 =>
  optK (rdLoad P H 64 (some x12)) (fun x13 =>
  optK (rdLen P #[64] 3 (some [x13])) (fun x14 =>
  optK (rdBin P H .eql 3 true (some x14) (some (.int .i64 2))) (fun x15 =>
  bvK x15 (fun b16 => bK b16 (optK (rdFieldAddr P 67 (some t5) 3) (fun x17 =>
  optK (rdLoad P H 65 (some x17)) (fun x18 =>
  optK (rdLen P #[65] 3 (some [x18])) (fun x19 =>
  optK (rdBin P H .eql 3 true (some x19) (some (.int .i64 0))) (fun x20 =>
  bvK x20 (fun b21 => .ret ⟨.ret (.bool b21), false, H, nx⟩) .bad) .bad) .bad) .bad) .bad) (.ret ⟨.ret (.bool false), false, H, nx⟩)) .bad) .bad) .bad) .bad) .bad) (.ret ⟨.ret (.bool false), false, H, nx⟩))
 (optK (rdBin P H .eql 3 true (some t97) (some (.int .i64 4))) (fun x22 =>
  bvK x22 (fun b23 => bK b23
 (optK (rdFieldAddr P 67 (some t5) 2) (fun x24 =>
  optK (rdLoad P H 64 (some x24)) (fun x25 =>
  optK (rdLen P #[64] 3 (some [x25])) (fun x26 =>
  optK (rdBin P H .eql 3 true (some x26) (some (.int .i64 1))) (fun x27 =>
  bvK x27 (fun b28 => bK b28 (optK (rdFieldAddr P 67 (some t5) 3) (fun x29 =>
  optK (rdLoad P H 65 (some x29)) (fun x30 =>
  optK (rdLen P #[65] 3 (some [x30])) (fun x31 =>
  optK (rdBin P H .eql 3 true (some x31) (some (.int .i64 2))) (fun x32 =>
  bvK x32 (fun b33 => .ret ⟨.ret (.bool b33), false, H, nx⟩) .bad) .bad) .bad) .bad) .bad) (.ret ⟨.ret (.bool false), false, H, nx⟩)) .bad) .bad) .bad) .bad) .bad)
 (.ret ⟨.ret (.bool false), false, H, nx⟩)) .bad) .bad)) .bad) .bad) := by kernel_rfl
theorem q45_24 (t0 : Value) (t2 : Value) (t3 : Bool) (t5 : Value) (t10 : Value) (t12 : Value) (t13 : Value) (t17 : Value) (t18 : Value) (t19 : Value) (t36 : Value) (t37 : Value) (t38 : Value) (t50 : Bool) (H : T OB) (nx : Nat) : evT P pl (l45_24 t0 t2 t3 t5 t10 t12 t13 t17 t18 t19 t36 t37 t38 t50 H nx) =
  bK t50
 (optK (rdFieldAddr P 125 (some t10) 2) (fun x0 =>
  optK (rdLoad P H 3 (some x0)) (fun x1 =>
  optK (rdBuild P 145 (some [(0, x1), (1, t2)])) (fun x2 =>
  natF (Nat.succ nx) (fun nx =>
  optK (rdLoad P H 67 (some t12)) (fun x3 =>
  callQ (.call 45 [t0, x3, (eptrV x2), (.bool false)] false none H nx) (fun x4 H nx =>
  bvK x4 (fun b5 => optK (unV P .not (some (.bool b5))) (fun x6 =>
  bvK x6 (fun b7 => bK b7
 (.ret ⟨.ret (.bool false), false, H, nx⟩)
 (optK (rdBin P H .add 3 true (some t38) (some (.int .i64 1))) (fun x8 =>
  .jump (l45_17 t0 t2 t3 t5 t10 t17 t18 t19 t36 t37 x8 H nx)) .bad)) .bad) .bad) .bad) panK) .bad)) .bad) .bad) .bad)
 (optK (rdLoad P H 67 (some t12)) (fun x9 =>
  callQ (.call 45 [t0, x9, t13, (.bool false)] false none H nx) (fun x10 H nx =>
  bvK x10 (fun b11 => optK (unV P .not (some (.bool b11))) (fun x12 =>
  bvK x12 (fun b13 => bK b13
 (.ret ⟨.ret (.bool false), false, H, nx⟩)
 (optK (rdBin P H .add 3 true (some t38) (some (.int .i64 1))) (fun x14 =>
  .jump (l45_17 t0 t2 t3 t5 t10 t17 t18 t19 t36 t37 x14 H nx)) .bad)) .bad) .bad) .bad) panK) .bad) := by kernel_rfl
theorem q45_34 (t0 : Value) (t2 : Value) (t3 : Bool) (t5 : Value) (t10 : Value) (t17 : Value) (t18 : Value) (t19 : Value) (t69 : Bool) (H : T OB) (nx : Nat) : evT P pl (l45_34 t0 t2 t3 t5 t10 t17 t18 t19 t69 H nx) =
  bK t69
 (optK (rdFieldAddr P 125 (some t10) 1) (fun x0 =>
  optK (rdLoad P H 3 (some x0)) (fun x1 =>
  optK (rdBuild P 145 (some [(0, x1), (1, t2)])) (fun x2 =>
  natF (Nat.succ nx) (fun nx =>
  optK (rdBin P H .add 3 true (some t19) (some (.int .i64 1))) (fun x3 =>
  .jump (l45_7 t0 (eptrV x2) t3 t5 t17 t18 x3 H nx)) .bad)) .bad) .bad) .bad)
 (optK (rdBin P H .add 3 true (some t19) (some (.int .i64 1))) (fun x4 =>
  .jump (l45_7 t0 t2 t3 t5 t17 t18 x4 H nx)) .bad) := by kernel_rfl
/-! kindling/kindlingref11.blockSize -/
noncomputable def l47_9 (t1 : Value) (t2 : Value) (t5 : Value) (t6 : Value) (H : T OB) (nx : Nat) : Cfg := .at ⟨47, 90, false, [], none, false⟩ (tmOf [(1, t1), (2, t2), (5, t5), (6, t6)]) (todoOf P 47 9) H nx
noncomputable def l47_17 (t1 : Value) (t2 : Value) (t5 : Value) (t6 : Value) (t7 : Value) (H : T OB) (nx : Nat) : Cfg := .at ⟨47, 90, false, [], none, false⟩ (tmOf [(1, t1), (2, t2), (5, t5), (6, t6), (7, t7)]) (todoOf P 47 17) H nx
noncomputable def l47_25 (t1 : Value) (t2 : Value) (t5 : Value) (t8 : Value) (H : T OB) (nx : Nat) : Cfg := .at ⟨47, 90, false, [], none, false⟩ (tmOf [(1, t1), (2, t2), (5, t5), (8, t8)]) (todoOf P 47 25) H nx
theorem q47 (a0 : Value) (a1 : Value) (H : T OB) (nx : Nat) : evT P pl (.call 47 [a0, a1] false none H nx) =
  natF (Nat.succ nx) (fun nx =>
  optK (rdFieldAddr P 67 (some (eptrV a0)) 2) (fun x0 =>
  optK (rdLoad P H 64 (some x0)) (fun x1 =>
  callQ (.call 81 [x1] false none H nx) (fun x2 H nx =>
  optK (rdBin P H .add 3 true (some (.int .i64 1)) (some x2)) (fun x3 =>
  .jump (l47_9 a1 (eptrV a0) x3 (.int .i64 0) H nx)) .bad) panK) .bad) .bad) := by kernel_rfl
theorem q47_9 (t1 : Value) (t2 : Value) (t5 : Value) (t6 : Value) (H : T OB) (nx : Nat) : evT P pl (l47_9 t1 t2 t5 t6 H nx) =
  optK (rdFieldAddr P 67 (some t2) 0) (fun x0 =>
  optK (rdLoad P H 63 (some x0)) (fun x1 =>
  optK (rdLen P #[63] 3 (some [x1])) (fun x2 =>
  optK (rdBin P H .lss 3 false (some t6) (some x2)) (fun x3 =>
  bvK x3 (fun b4 => bK b4 (optK (rdBin P H .leq 3 false (some t5) (some t1)) (fun x5 =>
  bvK x5 (fun b6 => bK b6
 (optK (rdBin P H .add 3 true (some t5) (some (.int .i64 1))) (fun x7 =>
  optK (rdFieldAddr P 67 (some t2) 0) (fun x8 =>
  optK (rdLoad P H 63 (some x8)) (fun x9 =>
  optK (rdIndexAddr P 63 (some x9) (some t6)) (fun x10 =>
  optK (rdFieldAddr P 125 (some x10) 3) (fun x11 =>
  optK (rdLoad P H 64 (some x11)) (fun x12 =>
  callQ (.call 81 [x12] false none H nx) (fun x13 H nx =>
  optK (rdBin P H .add 3 false (some x7) (some x13)) (fun x14 =>
  .jump (l47_17 t1 t2 x14 t6 (.int .i64 0) H nx)) .bad) panK) .bad) .bad) .bad) .bad) .bad) .bad)
 (.jump (l47_25 t1 t2 t5 (.int .i64 0) H nx))) .bad) .bad) (.jump (l47_25 t1 t2 t5 (.int .i64 0) H nx))) .bad) .bad) .bad) .bad) .bad := by kernel_rfl
theorem q47_17 (t1 : Value) (t2 : Value) (t5 : Value) (t6 : Value) (t7 : Value) (H : T OB) (nx : Nat) : evT P pl (l47_17 t1 t2 t5 t6 t7 H nx) =
  optK (rdFieldAddr P 67 (some t2) 0) (fun x0 =>
  optK (rdLoad P H 63 (some x0)) (fun x1 =>
  optK (rdIndexAddr P 63 (some x1) (some t6)) (fun x2 =>
  optK (rdFieldAddr P 125 (some x2) 4) (fun x3 =>
  optK (rdLoad P H 65 (some x3)) (fun x4 =>
  optK (rdLen P #[65] 3 (some [x4])) (fun x5 =>
  optK (rdBin P H .lss 3 false (some t7) (some x5)) (fun x6 =>
  bvK x6 (fun b7 => bK b7 (optK (rdBin P H .leq 3 false (some t5) (some t1)) (fun x8 =>
  bvK x8 (fun b9 => bK b9
 (optK (rdFieldAddr P 67 (some t2) 0) (fun x10 =>
  optK (rdLoad P H 63 (some x10)) (fun x11 =>
  optK (rdIndexAddr P 63 (some x11) (some t6)) (fun x12 =>
  optK (rdFieldAddr P 125 (some x12) 4) (fun x13 =>
  optK (rdLoad P H 65 (some x13)) (fun x14 =>
  optK (rdIndexAddr P 65 (some x14) (some t7)) (fun x15 =>
  optK (rdLoad P H 67 (some x15)) (fun x16 =>
  optK (rdBin P H .sub 3 false (some t1) (some t5)) (fun x17 =>
  callQ (.call 47 [x16, x17] false none H nx) (fun x18 H nx =>
  optK (rdBin P H .add 3 false (some t5) (some x18)) (fun x19 =>
  optK (rdBin P H .add 3 true (some t7) (some (.int .i64 1))) (fun x20 =>
  .jump (l47_17 t1 t2 x19 t6 x20 H nx)) .bad) .bad) panK) .bad) .bad) .bad) .bad) .bad) .bad) .bad) .bad)
 (optK (rdBin P H .add 3 true (some t6) (some (.int .i64 1))) (fun x21 =>
  .jump (l47_9 t1 t2 t5 x21 H nx)) .bad)) .bad) .bad) (optK (rdBin P H .add 3 true (some t6) (some (.int .i64 1))) (fun x22 =>
  .jump (l47_9 t1 t2 t5 x22 H nx)) .bad)) .bad) .bad) .bad) .bad) .bad) .bad) .bad) .bad := by kernel_rfl
theorem q47_25 (t1 : Value) (t2 : Value) (t5 : Value) (t8 : Value) (H : T OB) (nx : Nat) : evT P pl (l47_25 t1 t2 t5 t8 H nx) =
  optK (rdFieldAddr P 67 (some t2) 3) (fun x0 =>
  optK (rdLoad P H 65 (some x0)) (fun x1 =>
  optK (rdLen P #[65] 3 (some [x1])) (fun x2 =>
  optK (rdBin P H .lss 3 false (some t8) (some x2)) (fun x3 =>
  bvK x3 (fun b4 => bK b4 (optK (rdBin P H .leq 3 false (some t5) (some t1)) (fun x5 =>
  bvK x5 (fun b6 => bK b6
 (optK (rdFieldAddr P 67 (some t2) 3) (fun x7 =>
  optK (rdLoad P H 65 (some x7)) (fun x8 =>
  optK (rdIndexAddr P 65 (some x8) (some t8)) (fun x9 =>
  optK (rdLoad P H 67 (some x9)) (fun x10 =>
  optK (rdBin P H .sub 3 false (some t1) (some t5)) (fun x11 =>
  callQ (.call 47 [x10, x11] false none H nx) (fun x12 H nx =>
  optK (rdBin P H .add 3 false (some t5) (some x12)) (fun x13 =>
  optK (rdBin P H .add 3 true (some t8) (some (.int .i64 1))) (fun x14 =>
  .jump (l47_25 t1 t2 x13 x14 H nx)) .bad) .bad) panK) .bad) .bad) .bad) .bad) .bad)
 (.ret ⟨.ret t5, false, H, nx⟩)) .bad) .bad) (.ret ⟨.ret t5, false, H, nx⟩)) .bad) .bad) .bad) .bad) .bad := by kernel_rfl
/-! (*kindling/anf.printer).put -/
noncomputable def l48_5 (t0 : Value) (t6 : Value) (t7 : Value) (t8 : Value) (H : T OB) (nx : Nat) : Cfg := .at ⟨48, 22, false, [], none, false⟩ (tmOf [(0, t0), (6, t6), (7, t7), (8, t8)]) (todoOf P 48 5) H nx
theorem q48 (a0 : Value) (a1 : Value) (H : T OB) (nx : Nat) : evT P pl (.call 48 [a0, a1] false none H nx) =
  frzV P 148 a1 H nx (fun x0 H nx =>
  optK (rdLen P #[148] 3 (some [x0])) (fun x1 =>
  .jump (l48_5 a0 x0 x1 (.int .i64 0) H nx)) .bad) := by kernel_rfl
theorem q48_5 (t0 : Value) (t6 : Value) (t7 : Value) (t8 : Value) (H : T OB) (nx : Nat) : evT P pl (l48_5 t0 t6 t7 t8 H nx) =
  optK (rdBin P H .lss 3 false (some t8) (some t7)) (fun x0 =>
  bvK x0 (fun b1 => bK b1
 (optK (rdIndexAddr P 148 (some t6) (some t8)) (fun x2 =>
  optK (rdLoad P H 9 (some x2)) (fun x3 =>
  optK (rdNil (some t0)) (fun x4 =>
  optK (rdFieldAddr P 102 (some x4) 0) (fun x5 =>
  optK (rdLoad P H 100 (some x5)) (fun x6 =>
  effQ (efAppS P H nx [100, 9] (some [x6, x3])) (fun x7 H nx =>
  optK (rdNil (some t0)) (fun x8 =>
  optK (rdFieldAddr P 102 (some x8) 0) (fun x9 =>
  effQ (efStore P H nx 100 (some x9) (some x7)) (fun x10 H nx =>
  optK (rdBin P H .add 3 true (some t8) (some (.int .i64 1))) (fun x11 =>
  .jump (l48_5 t0 t6 t7 x11 H nx)) .bad)) .bad) .bad)) .bad) .bad) .bad) .bad) .bad)
 (.ret ⟨.ret (.tuple ⟨[]⟩), false, H, nx⟩)) .bad) .bad := by kernel_rfl
/-! kindling/anf.digits -/
theorem q49 (a0 : Value) (H : T OB) (nx : Nat) : evT P pl (.call 49 [a0] false none H nx) =
  callQ (.call 82 [a0] false none H nx) (fun x0 H nx =>
  .ret ⟨.ret x0, false, H, nx⟩) panK := by kernel_rfl
/-! (*kindling/anf.printer).block -/
noncomputable def l50_9 (t0 : Value) (t3 : Value) (t10 : Value) (t11 : Value) (t12 : Value) (H : T OB) (nx : Nat) : Cfg := .at ⟨50, 56, false, [], none, false⟩ (tmOf [(0, t0), (3, t3), (10, t10), (11, t11), (12, t12)]) (todoOf P 50 9) H nx
noncomputable def l50_36 (t0 : Value) (t3 : Value) (H : T OB) (nx : Nat) : Cfg := .at ⟨50, 56, false, [], none, false⟩ (tmOf [(0, t0), (3, t3)]) (todoOf P 50 36) H nx
theorem q50 (a0 : Value) (a1 : Value) (H : T OB) (nx : Nat) : evT P pl (.call 50 [a0, a1] false none H nx) =
  natF (Nat.succ nx) (fun nx =>
  effQ (efBuildSlice P H nx 148 1 (some [(0, (.string ⟨⟨[91, 32]⟩⟩))])) (fun x0 H nx =>
  callQ (.call 48 [a0, x0] false none H nx) (fun x1 H nx =>
  optK (rdFieldAddr P 67 (some (eptrV a1)) 0) (fun x2 =>
  optK (rdLoad P H 63 (some x2)) (fun x3 =>
  optK (rdLen P #[63] 3 (some [x3])) (fun x4 =>
  .jump (l50_9 a0 (eptrV a1) x3 x4 (.int .i64 0) H nx)) .bad) .bad) .bad) panK)) := by kernel_rfl
theorem q50_9 (t0 : Value) (t3 : Value) (t10 : Value) (t11 : Value) (t12 : Value) (H : T OB) (nx : Nat) : evT P pl (l50_9 t0 t3 t10 t11 t12 H nx) =
  optK (rdBin P H .lss 3 false (some t12) (some t11)) (fun x0 =>
  bvK x0 (fun b1 => bK b1
 (optK (rdIndexAddr P 63 (some t10) (some t12)) (fun x2 =>
  optK (rdLoad P H 125 (some x2)) (fun x3 =>
  effQ (efAlloc P H nx 125) (fun x4 H nx =>
  frSt P H nx 125 (some x4) x3 (fun H nx =>
  optK (rdLoad P H 125 (some (eptrV x3))) (fun x5 =>
  callQ (.call 83 [t0, x5] false none H nx) (fun x6 H nx =>
  effQ (efBuildSlice P H nx 148 1 (some [(0, (.string ⟨⟨[32]⟩⟩))])) (fun x7 H nx =>
  callQ (.call 48 [t0, x7] false none H nx) (fun x8 H nx =>
  optK (rdBin P H .add 3 true (some t12) (some (.int .i64 1))) (fun x9 =>
  .jump (l50_9 t0 t3 t10 t11 x9 H nx)) .bad) panK)) panK) .bad))) .bad) .bad)
 (optK (rdFieldAddr P 67 (some t3) 1) (fun x10 =>
  optK (rdLoad P H 3 (some x10)) (fun x11 =>
  optK (rdBin P H .eql 3 true (some x11) (some (.int .i64 1))) (fun x12 =>
  bvK x12 (fun b13 => bK b13
 (effQ (efBuildSlice P H nx 148 1 (some [(0, (.string ⟨⟨[40, 114, 101, 116, 117, 114, 110]⟩⟩))])) (fun x14 H nx =>
  callQ (.call 48 [t0, x14] false none H nx) (fun x15 H nx =>
  .jump (l50_36 t0 t3 H nx)) panK))
 (optK (rdBin P H .eql 3 true (some x11) (some (.int .i64 2))) (fun x16 =>
  bvK x16 (fun b17 => bK b17
 (effQ (efBuildSlice P H nx 148 1 (some [(0, (.string ⟨⟨[40, 116, 97, 105, 108]⟩⟩))])) (fun x18 H nx =>
  callQ (.call 48 [t0, x18] false none H nx) (fun x19 H nx =>
  .jump (l50_36 t0 t3 H nx)) panK))
 (optK (rdBin P H .eql 3 true (some x11) (some (.int .i64 3))) (fun x20 =>
  bvK x20 (fun b21 => bK b21
 (effQ (efBuildSlice P H nx 148 1 (some [(0, (.string ⟨⟨[40, 114, 97, 105, 115, 101]⟩⟩))])) (fun x22 H nx =>
  callQ (.call 48 [t0, x22] false none H nx) (fun x23 H nx =>
  .jump (l50_36 t0 t3 H nx)) panK))
 (optK (rdBin P H .eql 3 true (some x11) (some (.int .i64 4))) (fun x24 =>
  bvK x24 (fun b25 => bK b25
 (effQ (efBuildSlice P H nx 148 1 (some [(0, (.string ⟨⟨[40, 98, 114, 97, 110, 99, 104]⟩⟩))])) (fun x26 H nx =>
  callQ (.call 48 [t0, x26] false none H nx) (fun x27 H nx =>
  .jump (l50_36 t0 t3 H nx)) panK))
 (.jump (l50_36 t0 t3 H nx))) .bad) .bad)) .bad) .bad)) .bad) .bad)) .bad) .bad) .bad) .bad)) .bad) .bad := by kernel_rfl
theorem q50_36 (t0 : Value) (t3 : Value) (H : T OB) (nx : Nat) : evT P pl (l50_36 t0 t3 H nx) =
  optK (rdFieldAddr P 67 (some t3) 2) (fun x0 =>
  optK (rdLoad P H 64 (some x0)) (fun x1 =>
  callQ (.call 84 [t0, x1] false none H nx) (fun x2 H nx =>
  optK (rdFieldAddr P 67 (some t3) 3) (fun x3 =>
  optK (rdLoad P H 65 (some x3)) (fun x4 =>
  callQ (.call 85 [t0, x4] false none H nx) (fun x5 H nx =>
  effQ (efBuildSlice P H nx 148 1 (some [(0, (.string ⟨⟨[32, 93]⟩⟩))])) (fun x6 H nx =>
  callQ (.call 48 [t0, x6] false none H nx) (fun x7 H nx =>
  .ret ⟨.ret (.tuple ⟨[]⟩), false, H, nx⟩) panK)) panK) .bad) .bad) panK) .bad) .bad := by kernel_rfl
/-! kindling/kindlingref11.digits -/
theorem q51 (a0 : Value) (H : T OB) (nx : Nat) : evT P pl (.call 51 [a0] false none H nx) =
  callQ (.call 86 [a0] false none H nx) (fun x0 H nx =>
  .ret ⟨.ret x0, false, H, nx⟩) panK := by kernel_rfl
/-! kindling/kindlingref11.blockText -/
noncomputable def l52_9 (t1 : Value) (t3 : Value) (t4 : Value) (H : T OB) (nx : Nat) : Cfg := .at ⟨52, 59, false, [], none, false⟩ (tmOf [(1, t1), (3, t3), (4, t4)]) (todoOf P 52 9) H nx
noncomputable def l52_30 (t1 : Value) (t3 : Value) (H : T OB) (nx : Nat) : Cfg := .at ⟨52, 59, false, [], none, false⟩ (tmOf [(1, t1), (3, t3)]) (todoOf P 52 30) H nx
theorem q52 (a0 : Value) (H : T OB) (nx : Nat) : evT P pl (.call 52 [a0] false none H nx) =
  natF (Nat.succ nx) (fun nx =>
  .jump (l52_9 (eptrV a0) (.string ⟨⟨[91, 32]⟩⟩) (.int .i64 0) H nx)) := by kernel_rfl
theorem q52_9 (t1 : Value) (t3 : Value) (t4 : Value) (H : T OB) (nx : Nat) : evT P pl (l52_9 t1 t3 t4 H nx) =
  optK (rdFieldAddr P 67 (some t1) 0) (fun x0 =>
  optK (rdLoad P H 63 (some x0)) (fun x1 =>
  optK (rdLen P #[63] 3 (some [x1])) (fun x2 =>
  optK (rdBin P H .lss 3 false (some t4) (some x2)) (fun x3 =>
  bvK x3 (fun b4 => bK b4
 (optK (rdFieldAddr P 67 (some t1) 0) (fun x5 =>
  optK (rdLoad P H 63 (some x5)) (fun x6 =>
  optK (rdIndexAddr P 63 (some x6) (some t4)) (fun x7 =>
  optK (rdLoad P H 125 (some x7)) (fun x8 =>
  optK (rdFieldAddr P 67 (some t1) 0) (fun x9 =>
  optK (rdLoad P H 63 (some x9)) (fun x10 =>
  optK (rdIndexAddr P 63 (some x10) (some t4)) (fun x11 =>
  optK (rdFieldAddr P 125 (some x11) 3) (fun x12 =>
  optK (rdLoad P H 64 (some x12)) (fun x13 =>
  optK (rdFieldAddr P 67 (some t1) 0) (fun x14 =>
  optK (rdLoad P H 63 (some x14)) (fun x15 =>
  optK (rdIndexAddr P 63 (some x15) (some t4)) (fun x16 =>
  optK (rdFieldAddr P 125 (some x16) 4) (fun x17 =>
  optK (rdLoad P H 65 (some x17)) (fun x18 =>
  callQ (.call 87 [x8] false none H nx) (fun x19 H nx =>
  bK (optK (rdLoad P H 65 (some x17)) (fun u => vEq u x18) false && (optK (rdLoad P H 63 (some x14)) (fun u => vEq u x15) false && (optK (rdLoad P H 64 (some x12)) (fun u => vEq u x13) false && (optK (rdLoad P H 63 (some x9)) (fun u => vEq u x10) false && true)))) (optK (rdBin P H .add 9 false (some t3) (some x19)) (fun x20 =>
  callQ (.call 88 [x13, x18] false none H nx) (fun x21 H nx =>
  bK (optK (rdBin P H .add 9 false (some t3) (some x19)) (fun u => vEq u x20) false && true) (optK (rdBin P H .add 9 false (some x20) (some x21)) (fun x22 =>
  optK (rdBin P H .add 9 true (some x22) (some (.string ⟨⟨[32]⟩⟩))) (fun x23 =>
  optK (rdBin P H .add 3 true (some t4) (some (.int .i64 1))) (fun x24 =>
  .jump (l52_9 t1 x23 x24 H nx)) .bad) .bad) .bad) .bad) panK) .bad) .bad) panK) .bad) .bad) .bad) .bad) .bad) .bad) .bad) .bad) .bad) .bad) .bad) .bad) .bad) .bad)
 (optK (rdFieldAddr P 67 (some t1) 1) (fun x25 =>
  optK (rdLoad P H 3 (some x25)) (fun x26 =>
  optK (rdBin P H .eql 3 true (some x26) (some (.int .i64 1))) (fun x27 =>
  bvK x27 (fun b28 => bK b28
 (optK (rdBin P H .add 9 true (some t3) (some (.string ⟨⟨[40, 114, 101, 116, 117, 114, 110]⟩⟩))) (fun x29 =>
  .jump (l52_30 t1 x29 H nx)) .bad)
 (optK (rdBin P H .eql 3 true (some x26) (some (.int .i64 2))) (fun x30 =>
  bvK x30 (fun b31 => bK b31
 (optK (rdBin P H .add 9 true (some t3) (some (.string ⟨⟨[40, 116, 97, 105, 108]⟩⟩))) (fun x32 =>
  .jump (l52_30 t1 x32 H nx)) .bad)
 (optK (rdBin P H .eql 3 true (some x26) (some (.int .i64 3))) (fun x33 =>
  bvK x33 (fun b34 => bK b34
 (optK (rdBin P H .add 9 true (some t3) (some (.string ⟨⟨[40, 114, 97, 105, 115, 101]⟩⟩))) (fun x35 =>
  .jump (l52_30 t1 x35 H nx)) .bad)
 (optK (rdBin P H .add 9 true (some t3) (some (.string ⟨⟨[40, 98, 114, 97, 110, 99, 104]⟩⟩))) (fun x36 =>
  .jump (l52_30 t1 x36 H nx)) .bad)) .bad) .bad)) .bad) .bad)) .bad) .bad) .bad) .bad)) .bad) .bad) .bad) .bad) .bad := by kernel_rfl
theorem q52_30 (t1 : Value) (t3 : Value) (H : T OB) (nx : Nat) : evT P pl (l52_30 t1 t3 H nx) =
  optK (rdFieldAddr P 67 (some t1) 2) (fun x0 =>
  optK (rdLoad P H 64 (some x0)) (fun x1 =>
  optK (rdFieldAddr P 67 (some t1) 3) (fun x2 =>
  optK (rdLoad P H 65 (some x2)) (fun x3 =>
  callQ (.call 88 [x1, x3] false none H nx) (fun x4 H nx =>
  optK (rdBin P H .add 9 false (some t3) (some x4)) (fun x5 =>
  optK (rdBin P H .add 9 true (some x5) (some (.string ⟨⟨[32, 93]⟩⟩))) (fun x6 =>
  .ret ⟨.ret x6, false, H, nx⟩) .bad) .bad) panK) .bad) .bad) .bad) .bad := by kernel_rfl
end
end Go.Proofs.YtfdgoenmdalphaaGreatDoor
