/- What functions of the program say, as trees. -/
import Derived.Test.YtcfpakjillacgaaGreatDoorRa0
import Derived.KernelRfl
namespace Go.Proofs.YtcfpakjillacgaaGreatDoor
open Go.Ev Go.RowKit
noncomputable section
set_option linter.unusedVariables false
set_option maxHeartbeats 8000000
/-! internal/strconv.formatBase10 -/
noncomputable def l90_5 (t0 : Value) (t1 : Value) (t4 : Value) (H : T OB) (nx : Nat) : Cfg := .at ⟨90, 167, false, [], none, false⟩ (tmOf [(0, t0), (1, t1), (4, t4)]) (todoOf P 90 5) H nx
noncomputable def l90_42 (t0 : Value) (t4 : Value) (t12 : Value) (H : T OB) (nx : Nat) : Cfg := .at ⟨90, 167, false, [], none, false⟩ (tmOf [(0, t0), (4, t4), (12, t12)]) (todoOf P 90 42) H nx
noncomputable def l90_52 (t0 : Value) (t4 : Value) (t12 : Value) (H : T OB) (nx : Nat) : Cfg := .at ⟨90, 167, false, [], none, false⟩ (tmOf [(0, t0), (4, t4), (12, t12)]) (todoOf P 90 52) H nx
theorem q90 (a0 : Value) (a1 : Value) (H : T OB) (nx : Nat) : evT P pl (.call 90 [a0, a1] false none H nx) =
  optK (rdLen P #[82] 3 (some [a0])) (fun x0 =>
  .jump (l90_5 a0 a1 x0 H nx)) .bad := by kernel_rfl
theorem q90_5 (t0 : Value) (t1 : Value) (t4 : Value) (H : T OB) (nx : Nat) : evT P pl (l90_5 t0 t1 t4 H nx) =
  optK (rdBin P H .geq 3 true (some t4) (some (.int .i64 8))) (fun x0 =>
  bvK x0 (fun b1 => bK b1
 (optK (rdBin P H .rem 161 true (some t1) (some (.int .u64 100000000))) (fun x2 =>
  optK (rdConv P H 161 176 (some x2)) (fun x3 =>
  optK (rdBin P H .quo 161 true (some t1) (some (.int .u64 100000000))) (fun x4 =>
  optK (rdBin P H .quo 176 true (some x3) (some (.int .u32 10000))) (fun x5 =>
  optK (rdBin P H .rem 176 true (some x3) (some (.int .u32 10000))) (fun x6 =>
  optK (rdBin P H .quo 176 true (some x6) (some (.int .u32 100))) (fun x7 =>
  optK (rdBin P H .mul 176 true (some x7) (some (.int .u32 2))) (fun x8 =>
  optK (rdBin P H .rem 176 true (some x6) (some (.int .u32 100))) (fun x9 =>
  optK (rdBin P H .mul 176 true (some x9) (some (.int .u32 2))) (fun x10 =>
  optK (rdBin P H .quo 176 true (some x5) (some (.int .u32 100))) (fun x11 =>
  optK (rdBin P H .mul 176 true (some x11) (some (.int .u32 2))) (fun x12 =>
  optK (rdBin P H .rem 176 true (some x5) (some (.int .u32 100))) (fun x13 =>
  optK (rdBin P H .mul 176 true (some x13) (some (.int .u32 2))) (fun x14 =>
  optK (rdBin P H .sub 3 true (some t4) (some (.int .i64 1))) (fun x15 =>
  optK (rdBin P H .sub 3 true (some t4) (some (.int .i64 2))) (fun x16 =>
  optK (rdBin P H .add 176 true (some x10) (some (.int .u32 1))) (fun x17 =>
  optK (rdIndex P 9 (some (.string ⟨⟨[48, 48, 48, 49, 48, 50, 48, 51, 48, 52, 48, 53, 48, 54, 48, 55, 48, 56, 48, 57, 49, 48, 49, 49, 49, 50, 49, 51, 49, 52, 49, 53, 49, 54, 49, 55, 49, 56, 49, 57, 50, 48, 50, 49, 50, 50, 50, 51, 50, 52, 50, 53, 50, 54, 50, 55, 50, 56, 50, 57, 51, 48, 51, 49, 51, 50, 51, 51, 51, 52, 51, 53, 51, 54, 51, 55, 51, 56, 51, 57, 52, 48, 52, 49, 52, 50, 52, 51, 52, 52, 52, 53, 52, 54, 52, 55, 52, 56, 52, 57, 53, 48, 53, 49, 53, 50, 53, 51, 53, 52, 53, 53, 53, 54, 53, 55, 53, 56, 53, 57, 54, 48, 54, 49, 54, 50, 54, 51, 54, 52, 54, 53, 54, 54, 54, 55, 54, 56, 54, 57, 55, 48, 55, 49, 55, 50, 55, 51, 55, 52, 55, 53, 55, 54, 55, 55, 55, 56, 55, 57, 56, 48, 56, 49, 56, 50, 56, 51, 56, 52, 56, 53, 56, 54, 56, 55, 56, 56, 56, 57, 57, 48, 57, 49, 57, 50, 57, 51, 57, 52, 57, 53, 57, 54, 57, 55, 57, 56, 57, 57]⟩⟩)) (some x17)) (fun x18 =>
  optK (rdIndex P 9 (some (.string ⟨⟨[48, 48, 48, 49, 48, 50, 48, 51, 48, 52, 48, 53, 48, 54, 48, 55, 48, 56, 48, 57, 49, 48, 49, 49, 49, 50, 49, 51, 49, 52, 49, 53, 49, 54, 49, 55, 49, 56, 49, 57, 50, 48, 50, 49, 50, 50, 50, 51, 50, 52, 50, 53, 50, 54, 50, 55, 50, 56, 50, 57, 51, 48, 51, 49, 51, 50, 51, 51, 51, 52, 51, 53, 51, 54, 51, 55, 51, 56, 51, 57, 52, 48, 52, 49, 52, 50, 52, 51, 52, 52, 52, 53, 52, 54, 52, 55, 52, 56, 52, 57, 53, 48, 53, 49, 53, 50, 53, 51, 53, 52, 53, 53, 53, 54, 53, 55, 53, 56, 53, 57, 54, 48, 54, 49, 54, 50, 54, 51, 54, 52, 54, 53, 54, 54, 54, 55, 54, 56, 54, 57, 55, 48, 55, 49, 55, 50, 55, 51, 55, 52, 55, 53, 55, 54, 55, 55, 55, 56, 55, 57, 56, 48, 56, 49, 56, 50, 56, 51, 56, 52, 56, 53, 56, 54, 56, 55, 56, 56, 56, 57, 57, 48, 57, 49, 57, 50, 57, 51, 57, 52, 57, 53, 57, 54, 57, 55, 57, 56, 57, 57]⟩⟩)) (some x10)) (fun x19 =>
  optK (rdIndexAddr P 82 (some t0) (some x15)) (fun x20 =>
  effQ (efStore P H nx 5 (some x20) (some x18)) (fun x21 H nx =>
  bK (optK (rdBin P H .sub 3 true (some t4) (some (.int .i64 2))) (fun u => vEq u x16) false && true) (optK (rdIndexAddr P 82 (some t0) (some x16)) (fun x22 =>
  effQ (efStore P H nx 5 (some x22) (some x19)) (fun x23 H nx =>
  optK (rdBin P H .sub 3 true (some t4) (some (.int .i64 3))) (fun x24 =>
  optK (rdBin P H .sub 3 true (some t4) (some (.int .i64 4))) (fun x25 =>
  optK (rdBin P H .add 176 true (some x8) (some (.int .u32 1))) (fun x26 =>
  optK (rdIndex P 9 (some (.string ⟨⟨[48, 48, 48, 49, 48, 50, 48, 51, 48, 52, 48, 53, 48, 54, 48, 55, 48, 56, 48, 57, 49, 48, 49, 49, 49, 50, 49, 51, 49, 52, 49, 53, 49, 54, 49, 55, 49, 56, 49, 57, 50, 48, 50, 49, 50, 50, 50, 51, 50, 52, 50, 53, 50, 54, 50, 55, 50, 56, 50, 57, 51, 48, 51, 49, 51, 50, 51, 51, 51, 52, 51, 53, 51, 54, 51, 55, 51, 56, 51, 57, 52, 48, 52, 49, 52, 50, 52, 51, 52, 52, 52, 53, 52, 54, 52, 55, 52, 56, 52, 57, 53, 48, 53, 49, 53, 50, 53, 51, 53, 52, 53, 53, 53, 54, 53, 55, 53, 56, 53, 57, 54, 48, 54, 49, 54, 50, 54, 51, 54, 52, 54, 53, 54, 54, 54, 55, 54, 56, 54, 57, 55, 48, 55, 49, 55, 50, 55, 51, 55, 52, 55, 53, 55, 54, 55, 55, 55, 56, 55, 57, 56, 48, 56, 49, 56, 50, 56, 51, 56, 52, 56, 53, 56, 54, 56, 55, 56, 56, 56, 57, 57, 48, 57, 49, 57, 50, 57, 51, 57, 52, 57, 53, 57, 54, 57, 55, 57, 56, 57, 57]⟩⟩)) (some x26)) (fun x27 =>
  optK (rdIndex P 9 (some (.string ⟨⟨[48, 48, 48, 49, 48, 50, 48, 51, 48, 52, 48, 53, 48, 54, 48, 55, 48, 56, 48, 57, 49, 48, 49, 49, 49, 50, 49, 51, 49, 52, 49, 53, 49, 54, 49, 55, 49, 56, 49, 57, 50, 48, 50, 49, 50, 50, 50, 51, 50, 52, 50, 53, 50, 54, 50, 55, 50, 56, 50, 57, 51, 48, 51, 49, 51, 50, 51, 51, 51, 52, 51, 53, 51, 54, 51, 55, 51, 56, 51, 57, 52, 48, 52, 49, 52, 50, 52, 51, 52, 52, 52, 53, 52, 54, 52, 55, 52, 56, 52, 57, 53, 48, 53, 49, 53, 50, 53, 51, 53, 52, 53, 53, 53, 54, 53, 55, 53, 56, 53, 57, 54, 48, 54, 49, 54, 50, 54, 51, 54, 52, 54, 53, 54, 54, 54, 55, 54, 56, 54, 57, 55, 48, 55, 49, 55, 50, 55, 51, 55, 52, 55, 53, 55, 54, 55, 55, 55, 56, 55, 57, 56, 48, 56, 49, 56, 50, 56, 51, 56, 52, 56, 53, 56, 54, 56, 55, 56, 56, 56, 57, 57, 48, 57, 49, 57, 50, 57, 51, 57, 52, 57, 53, 57, 54, 57, 55, 57, 56, 57, 57]⟩⟩)) (some x8)) (fun x28 =>
  optK (rdIndexAddr P 82 (some t0) (some x24)) (fun x29 =>
  effQ (efStore P H nx 5 (some x29) (some x27)) (fun x30 H nx =>
  bK (optK (rdBin P H .sub 3 true (some t4) (some (.int .i64 4))) (fun u => vEq u x25) false && true) (optK (rdIndexAddr P 82 (some t0) (some x25)) (fun x31 =>
  effQ (efStore P H nx 5 (some x31) (some x28)) (fun x32 H nx =>
  optK (rdBin P H .sub 3 true (some t4) (some (.int .i64 5))) (fun x33 =>
  optK (rdBin P H .sub 3 true (some t4) (some (.int .i64 6))) (fun x34 =>
  optK (rdBin P H .add 176 true (some x14) (some (.int .u32 1))) (fun x35 =>
  optK (rdIndex P 9 (some (.string ⟨⟨[48, 48, 48, 49, 48, 50, 48, 51, 48, 52, 48, 53, 48, 54, 48, 55, 48, 56, 48, 57, 49, 48, 49, 49, 49, 50, 49, 51, 49, 52, 49, 53, 49, 54, 49, 55, 49, 56, 49, 57, 50, 48, 50, 49, 50, 50, 50, 51, 50, 52, 50, 53, 50, 54, 50, 55, 50, 56, 50, 57, 51, 48, 51, 49, 51, 50, 51, 51, 51, 52, 51, 53, 51, 54, 51, 55, 51, 56, 51, 57, 52, 48, 52, 49, 52, 50, 52, 51, 52, 52, 52, 53, 52, 54, 52, 55, 52, 56, 52, 57, 53, 48, 53, 49, 53, 50, 53, 51, 53, 52, 53, 53, 53, 54, 53, 55, 53, 56, 53, 57, 54, 48, 54, 49, 54, 50, 54, 51, 54, 52, 54, 53, 54, 54, 54, 55, 54, 56, 54, 57, 55, 48, 55, 49, 55, 50, 55, 51, 55, 52, 55, 53, 55, 54, 55, 55, 55, 56, 55, 57, 56, 48, 56, 49, 56, 50, 56, 51, 56, 52, 56, 53, 56, 54, 56, 55, 56, 56, 56, 57, 57, 48, 57, 49, 57, 50, 57, 51, 57, 52, 57, 53, 57, 54, 57, 55, 57, 56, 57, 57]⟩⟩)) (some x35)) (fun x36 =>
  optK (rdIndex P 9 (some (.string ⟨⟨[48, 48, 48, 49, 48, 50, 48, 51, 48, 52, 48, 53, 48, 54, 48, 55, 48, 56, 48, 57, 49, 48, 49, 49, 49, 50, 49, 51, 49, 52, 49, 53, 49, 54, 49, 55, 49, 56, 49, 57, 50, 48, 50, 49, 50, 50, 50, 51, 50, 52, 50, 53, 50, 54, 50, 55, 50, 56, 50, 57, 51, 48, 51, 49, 51, 50, 51, 51, 51, 52, 51, 53, 51, 54, 51, 55, 51, 56, 51, 57, 52, 48, 52, 49, 52, 50, 52, 51, 52, 52, 52, 53, 52, 54, 52, 55, 52, 56, 52, 57, 53, 48, 53, 49, 53, 50, 53, 51, 53, 52, 53, 53, 53, 54, 53, 55, 53, 56, 53, 57, 54, 48, 54, 49, 54, 50, 54, 51, 54, 52, 54, 53, 54, 54, 54, 55, 54, 56, 54, 57, 55, 48, 55, 49, 55, 50, 55, 51, 55, 52, 55, 53, 55, 54, 55, 55, 55, 56, 55, 57, 56, 48, 56, 49, 56, 50, 56, 51, 56, 52, 56, 53, 56, 54, 56, 55, 56, 56, 56, 57, 57, 48, 57, 49, 57, 50, 57, 51, 57, 52, 57, 53, 57, 54, 57, 55, 57, 56, 57, 57]⟩⟩)) (some x14)) (fun x37 =>
  optK (rdIndexAddr P 82 (some t0) (some x33)) (fun x38 =>
  effQ (efStore P H nx 5 (some x38) (some x36)) (fun x39 H nx =>
  bK (optK (rdBin P H .sub 3 true (some t4) (some (.int .i64 6))) (fun u => vEq u x34) false && true) (optK (rdIndexAddr P 82 (some t0) (some x34)) (fun x40 =>
  effQ (efStore P H nx 5 (some x40) (some x37)) (fun x41 H nx =>
  optK (rdBin P H .sub 3 true (some t4) (some (.int .i64 7))) (fun x42 =>
  optK (rdBin P H .sub 3 true (some t4) (some (.int .i64 8))) (fun x43 =>
  optK (rdBin P H .add 176 true (some x12) (some (.int .u32 1))) (fun x44 =>
  optK (rdIndex P 9 (some (.string ⟨⟨[48, 48, 48, 49, 48, 50, 48, 51, 48, 52, 48, 53, 48, 54, 48, 55, 48, 56, 48, 57, 49, 48, 49, 49, 49, 50, 49, 51, 49, 52, 49, 53, 49, 54, 49, 55, 49, 56, 49, 57, 50, 48, 50, 49, 50, 50, 50, 51, 50, 52, 50, 53, 50, 54, 50, 55, 50, 56, 50, 57, 51, 48, 51, 49, 51, 50, 51, 51, 51, 52, 51, 53, 51, 54, 51, 55, 51, 56, 51, 57, 52, 48, 52, 49, 52, 50, 52, 51, 52, 52, 52, 53, 52, 54, 52, 55, 52, 56, 52, 57, 53, 48, 53, 49, 53, 50, 53, 51, 53, 52, 53, 53, 53, 54, 53, 55, 53, 56, 53, 57, 54, 48, 54, 49, 54, 50, 54, 51, 54, 52, 54, 53, 54, 54, 54, 55, 54, 56, 54, 57, 55, 48, 55, 49, 55, 50, 55, 51, 55, 52, 55, 53, 55, 54, 55, 55, 55, 56, 55, 57, 56, 48, 56, 49, 56, 50, 56, 51, 56, 52, 56, 53, 56, 54, 56, 55, 56, 56, 56, 57, 57, 48, 57, 49, 57, 50, 57, 51, 57, 52, 57, 53, 57, 54, 57, 55, 57, 56, 57, 57]⟩⟩)) (some x44)) (fun x45 =>
  optK (rdIndex P 9 (some (.string ⟨⟨[48, 48, 48, 49, 48, 50, 48, 51, 48, 52, 48, 53, 48, 54, 48, 55, 48, 56, 48, 57, 49, 48, 49, 49, 49, 50, 49, 51, 49, 52, 49, 53, 49, 54, 49, 55, 49, 56, 49, 57, 50, 48, 50, 49, 50, 50, 50, 51, 50, 52, 50, 53, 50, 54, 50, 55, 50, 56, 50, 57, 51, 48, 51, 49, 51, 50, 51, 51, 51, 52, 51, 53, 51, 54, 51, 55, 51, 56, 51, 57, 52, 48, 52, 49, 52, 50, 52, 51, 52, 52, 52, 53, 52, 54, 52, 55, 52, 56, 52, 57, 53, 48, 53, 49, 53, 50, 53, 51, 53, 52, 53, 53, 53, 54, 53, 55, 53, 56, 53, 57, 54, 48, 54, 49, 54, 50, 54, 51, 54, 52, 54, 53, 54, 54, 54, 55, 54, 56, 54, 57, 55, 48, 55, 49, 55, 50, 55, 51, 55, 52, 55, 53, 55, 54, 55, 55, 55, 56, 55, 57, 56, 48, 56, 49, 56, 50, 56, 51, 56, 52, 56, 53, 56, 54, 56, 55, 56, 56, 56, 57, 57, 48, 57, 49, 57, 50, 57, 51, 57, 52, 57, 53, 57, 54, 57, 55, 57, 56, 57, 57]⟩⟩)) (some x12)) (fun x46 =>
  optK (rdIndexAddr P 82 (some t0) (some x42)) (fun x47 =>
  effQ (efStore P H nx 5 (some x47) (some x45)) (fun x48 H nx =>
  bK (optK (rdBin P H .sub 3 true (some t4) (some (.int .i64 8))) (fun u => vEq u x43) false && true) (optK (rdIndexAddr P 82 (some t0) (some x43)) (fun x49 =>
  effQ (efStore P H nx 5 (some x49) (some x46)) (fun x50 H nx =>
  optK (rdBin P H .sub 3 true (some t4) (some (.int .i64 8))) (fun x51 =>
  .jump (l90_5 t0 x4 x51 H nx)) .bad)) .bad) .bad)) .bad) .bad) .bad) .bad) .bad) .bad)) .bad) .bad)) .bad) .bad) .bad) .bad) .bad) .bad)) .bad) .bad)) .bad) .bad) .bad) .bad) .bad) .bad)) .bad) .bad)) .bad) .bad) .bad) .bad) .bad) .bad) .bad) .bad) .bad) .bad) .bad) .bad) .bad) .bad) .bad) .bad) .bad) .bad) .bad)
 (optK (rdConv P H 161 176 (some t1)) (fun x52 =>
  optK (rdBin P H .geq 3 true (some t4) (some (.int .i64 4))) (fun x53 =>
  bvK x53 (fun b54 => bK b54
 (optK (rdBin P H .rem 176 true (some x52) (some (.int .u32 10000))) (fun x55 =>
  optK (rdBin P H .quo 176 true (some x52) (some (.int .u32 10000))) (fun x56 =>
  optK (rdBin P H .quo 176 true (some x55) (some (.int .u32 100))) (fun x57 =>
  optK (rdBin P H .mul 176 true (some x57) (some (.int .u32 2))) (fun x58 =>
  optK (rdBin P H .rem 176 true (some x55) (some (.int .u32 100))) (fun x59 =>
  optK (rdBin P H .mul 176 true (some x59) (some (.int .u32 2))) (fun x60 =>
  optK (rdBin P H .sub 3 true (some t4) (some (.int .i64 1))) (fun x61 =>
  optK (rdBin P H .sub 3 true (some t4) (some (.int .i64 2))) (fun x62 =>
  optK (rdBin P H .add 176 true (some x60) (some (.int .u32 1))) (fun x63 =>
  optK (rdIndex P 9 (some (.string ⟨⟨[48, 48, 48, 49, 48, 50, 48, 51, 48, 52, 48, 53, 48, 54, 48, 55, 48, 56, 48, 57, 49, 48, 49, 49, 49, 50, 49, 51, 49, 52, 49, 53, 49, 54, 49, 55, 49, 56, 49, 57, 50, 48, 50, 49, 50, 50, 50, 51, 50, 52, 50, 53, 50, 54, 50, 55, 50, 56, 50, 57, 51, 48, 51, 49, 51, 50, 51, 51, 51, 52, 51, 53, 51, 54, 51, 55, 51, 56, 51, 57, 52, 48, 52, 49, 52, 50, 52, 51, 52, 52, 52, 53, 52, 54, 52, 55, 52, 56, 52, 57, 53, 48, 53, 49, 53, 50, 53, 51, 53, 52, 53, 53, 53, 54, 53, 55, 53, 56, 53, 57, 54, 48, 54, 49, 54, 50, 54, 51, 54, 52, 54, 53, 54, 54, 54, 55, 54, 56, 54, 57, 55, 48, 55, 49, 55, 50, 55, 51, 55, 52, 55, 53, 55, 54, 55, 55, 55, 56, 55, 57, 56, 48, 56, 49, 56, 50, 56, 51, 56, 52, 56, 53, 56, 54, 56, 55, 56, 56, 56, 57, 57, 48, 57, 49, 57, 50, 57, 51, 57, 52, 57, 53, 57, 54, 57, 55, 57, 56, 57, 57]⟩⟩)) (some x63)) (fun x64 =>
  optK (rdIndex P 9 (some (.string ⟨⟨[48, 48, 48, 49, 48, 50, 48, 51, 48, 52, 48, 53, 48, 54, 48, 55, 48, 56, 48, 57, 49, 48, 49, 49, 49, 50, 49, 51, 49, 52, 49, 53, 49, 54, 49, 55, 49, 56, 49, 57, 50, 48, 50, 49, 50, 50, 50, 51, 50, 52, 50, 53, 50, 54, 50, 55, 50, 56, 50, 57, 51, 48, 51, 49, 51, 50, 51, 51, 51, 52, 51, 53, 51, 54, 51, 55, 51, 56, 51, 57, 52, 48, 52, 49, 52, 50, 52, 51, 52, 52, 52, 53, 52, 54, 52, 55, 52, 56, 52, 57, 53, 48, 53, 49, 53, 50, 53, 51, 53, 52, 53, 53, 53, 54, 53, 55, 53, 56, 53, 57, 54, 48, 54, 49, 54, 50, 54, 51, 54, 52, 54, 53, 54, 54, 54, 55, 54, 56, 54, 57, 55, 48, 55, 49, 55, 50, 55, 51, 55, 52, 55, 53, 55, 54, 55, 55, 55, 56, 55, 57, 56, 48, 56, 49, 56, 50, 56, 51, 56, 52, 56, 53, 56, 54, 56, 55, 56, 56, 56, 57, 57, 48, 57, 49, 57, 50, 57, 51, 57, 52, 57, 53, 57, 54, 57, 55, 57, 56, 57, 57]⟩⟩)) (some x60)) (fun x65 =>
  optK (rdIndexAddr P 82 (some t0) (some x61)) (fun x66 =>
  effQ (efStore P H nx 5 (some x66) (some x64)) (fun x67 H nx =>
  bK (optK (rdBin P H .sub 3 true (some t4) (some (.int .i64 2))) (fun u => vEq u x62) false && true) (optK (rdIndexAddr P 82 (some t0) (some x62)) (fun x68 =>
  effQ (efStore P H nx 5 (some x68) (some x65)) (fun x69 H nx =>
  optK (rdBin P H .sub 3 true (some t4) (some (.int .i64 3))) (fun x70 =>
  optK (rdBin P H .sub 3 true (some t4) (some (.int .i64 4))) (fun x71 =>
  optK (rdBin P H .add 176 true (some x58) (some (.int .u32 1))) (fun x72 =>
  optK (rdIndex P 9 (some (.string ⟨⟨[48, 48, 48, 49, 48, 50, 48, 51, 48, 52, 48, 53, 48, 54, 48, 55, 48, 56, 48, 57, 49, 48, 49, 49, 49, 50, 49, 51, 49, 52, 49, 53, 49, 54, 49, 55, 49, 56, 49, 57, 50, 48, 50, 49, 50, 50, 50, 51, 50, 52, 50, 53, 50, 54, 50, 55, 50, 56, 50, 57, 51, 48, 51, 49, 51, 50, 51, 51, 51, 52, 51, 53, 51, 54, 51, 55, 51, 56, 51, 57, 52, 48, 52, 49, 52, 50, 52, 51, 52, 52, 52, 53, 52, 54, 52, 55, 52, 56, 52, 57, 53, 48, 53, 49, 53, 50, 53, 51, 53, 52, 53, 53, 53, 54, 53, 55, 53, 56, 53, 57, 54, 48, 54, 49, 54, 50, 54, 51, 54, 52, 54, 53, 54, 54, 54, 55, 54, 56, 54, 57, 55, 48, 55, 49, 55, 50, 55, 51, 55, 52, 55, 53, 55, 54, 55, 55, 55, 56, 55, 57, 56, 48, 56, 49, 56, 50, 56, 51, 56, 52, 56, 53, 56, 54, 56, 55, 56, 56, 56, 57, 57, 48, 57, 49, 57, 50, 57, 51, 57, 52, 57, 53, 57, 54, 57, 55, 57, 56, 57, 57]⟩⟩)) (some x72)) (fun x73 =>
  optK (rdIndex P 9 (some (.string ⟨⟨[48, 48, 48, 49, 48, 50, 48, 51, 48, 52, 48, 53, 48, 54, 48, 55, 48, 56, 48, 57, 49, 48, 49, 49, 49, 50, 49, 51, 49, 52, 49, 53, 49, 54, 49, 55, 49, 56, 49, 57, 50, 48, 50, 49, 50, 50, 50, 51, 50, 52, 50, 53, 50, 54, 50, 55, 50, 56, 50, 57, 51, 48, 51, 49, 51, 50, 51, 51, 51, 52, 51, 53, 51, 54, 51, 55, 51, 56, 51, 57, 52, 48, 52, 49, 52, 50, 52, 51, 52, 52, 52, 53, 52, 54, 52, 55, 52, 56, 52, 57, 53, 48, 53, 49, 53, 50, 53, 51, 53, 52, 53, 53, 53, 54, 53, 55, 53, 56, 53, 57, 54, 48, 54, 49, 54, 50, 54, 51, 54, 52, 54, 53, 54, 54, 54, 55, 54, 56, 54, 57, 55, 48, 55, 49, 55, 50, 55, 51, 55, 52, 55, 53, 55, 54, 55, 55, 55, 56, 55, 57, 56, 48, 56, 49, 56, 50, 56, 51, 56, 52, 56, 53, 56, 54, 56, 55, 56, 56, 56, 57, 57, 48, 57, 49, 57, 50, 57, 51, 57, 52, 57, 53, 57, 54, 57, 55, 57, 56, 57, 57]⟩⟩)) (some x58)) (fun x74 =>
  optK (rdIndexAddr P 82 (some t0) (some x70)) (fun x75 =>
  effQ (efStore P H nx 5 (some x75) (some x73)) (fun x76 H nx =>
  bK (optK (rdBin P H .sub 3 true (some t4) (some (.int .i64 4))) (fun u => vEq u x71) false && true) (optK (rdIndexAddr P 82 (some t0) (some x71)) (fun x77 =>
  effQ (efStore P H nx 5 (some x77) (some x74)) (fun x78 H nx =>
  optK (rdBin P H .sub 3 true (some t4) (some (.int .i64 4))) (fun x79 =>
  .jump (l90_42 t0 x79 x56 H nx)) .bad)) .bad) .bad)) .bad) .bad) .bad) .bad) .bad) .bad)) .bad) .bad)) .bad) .bad) .bad) .bad) .bad) .bad) .bad) .bad) .bad) .bad) .bad) .bad)
 (.jump (l90_42 t0 t4 x52 H nx))) .bad) .bad) .bad)) .bad) .bad := by kernel_rfl
theorem q90_42 (t0 : Value) (t4 : Value) (t12 : Value) (H : T OB) (nx : Nat) : evT P pl (l90_42 t0 t4 t12 H nx) =
  optK (rdBin P H .geq 3 true (some t4) (some (.int .i64 2))) (fun x0 =>
  bvK x0 (fun b1 => bK b1
 (optK (rdBin P H .rem 176 true (some t12) (some (.int .u32 100))) (fun x2 =>
  optK (rdBin P H .mul 176 true (some x2) (some (.int .u32 2))) (fun x3 =>
  optK (rdBin P H .quo 176 true (some t12) (some (.int .u32 100))) (fun x4 =>
  optK (rdBin P H .sub 3 true (some t4) (some (.int .i64 1))) (fun x5 =>
  optK (rdBin P H .sub 3 true (some t4) (some (.int .i64 2))) (fun x6 =>
  optK (rdBin P H .add 176 true (some x3) (some (.int .u32 1))) (fun x7 =>
  optK (rdIndex P 9 (some (.string ⟨⟨[48, 48, 48, 49, 48, 50, 48, 51, 48, 52, 48, 53, 48, 54, 48, 55, 48, 56, 48, 57, 49, 48, 49, 49, 49, 50, 49, 51, 49, 52, 49, 53, 49, 54, 49, 55, 49, 56, 49, 57, 50, 48, 50, 49, 50, 50, 50, 51, 50, 52, 50, 53, 50, 54, 50, 55, 50, 56, 50, 57, 51, 48, 51, 49, 51, 50, 51, 51, 51, 52, 51, 53, 51, 54, 51, 55, 51, 56, 51, 57, 52, 48, 52, 49, 52, 50, 52, 51, 52, 52, 52, 53, 52, 54, 52, 55, 52, 56, 52, 57, 53, 48, 53, 49, 53, 50, 53, 51, 53, 52, 53, 53, 53, 54, 53, 55, 53, 56, 53, 57, 54, 48, 54, 49, 54, 50, 54, 51, 54, 52, 54, 53, 54, 54, 54, 55, 54, 56, 54, 57, 55, 48, 55, 49, 55, 50, 55, 51, 55, 52, 55, 53, 55, 54, 55, 55, 55, 56, 55, 57, 56, 48, 56, 49, 56, 50, 56, 51, 56, 52, 56, 53, 56, 54, 56, 55, 56, 56, 56, 57, 57, 48, 57, 49, 57, 50, 57, 51, 57, 52, 57, 53, 57, 54, 57, 55, 57, 56, 57, 57]⟩⟩)) (some x7)) (fun x8 =>
  optK (rdIndex P 9 (some (.string ⟨⟨[48, 48, 48, 49, 48, 50, 48, 51, 48, 52, 48, 53, 48, 54, 48, 55, 48, 56, 48, 57, 49, 48, 49, 49, 49, 50, 49, 51, 49, 52, 49, 53, 49, 54, 49, 55, 49, 56, 49, 57, 50, 48, 50, 49, 50, 50, 50, 51, 50, 52, 50, 53, 50, 54, 50, 55, 50, 56, 50, 57, 51, 48, 51, 49, 51, 50, 51, 51, 51, 52, 51, 53, 51, 54, 51, 55, 51, 56, 51, 57, 52, 48, 52, 49, 52, 50, 52, 51, 52, 52, 52, 53, 52, 54, 52, 55, 52, 56, 52, 57, 53, 48, 53, 49, 53, 50, 53, 51, 53, 52, 53, 53, 53, 54, 53, 55, 53, 56, 53, 57, 54, 48, 54, 49, 54, 50, 54, 51, 54, 52, 54, 53, 54, 54, 54, 55, 54, 56, 54, 57, 55, 48, 55, 49, 55, 50, 55, 51, 55, 52, 55, 53, 55, 54, 55, 55, 55, 56, 55, 57, 56, 48, 56, 49, 56, 50, 56, 51, 56, 52, 56, 53, 56, 54, 56, 55, 56, 56, 56, 57, 57, 48, 57, 49, 57, 50, 57, 51, 57, 52, 57, 53, 57, 54, 57, 55, 57, 56, 57, 57]⟩⟩)) (some x3)) (fun x9 =>
  optK (rdIndexAddr P 82 (some t0) (some x5)) (fun x10 =>
  effQ (efStore P H nx 5 (some x10) (some x8)) (fun x11 H nx =>
  bK (optK (rdBin P H .sub 3 true (some t4) (some (.int .i64 2))) (fun u => vEq u x6) false && true) (optK (rdIndexAddr P 82 (some t0) (some x6)) (fun x12 =>
  effQ (efStore P H nx 5 (some x12) (some x9)) (fun x13 H nx =>
  optK (rdBin P H .sub 3 true (some t4) (some (.int .i64 2))) (fun x14 =>
  .jump (l90_52 t0 x14 x4 H nx)) .bad)) .bad) .bad)) .bad) .bad) .bad) .bad) .bad) .bad) .bad) .bad) .bad)
 (.jump (l90_52 t0 t4 t12 H nx))) .bad) .bad := by kernel_rfl
theorem q90_52 (t0 : Value) (t4 : Value) (t12 : Value) (H : T OB) (nx : Nat) : evT P pl (l90_52 t0 t4 t12 H nx) =
  optK (rdBin P H .gtr 3 true (some t4) (some (.int .i64 0))) (fun x0 =>
  bvK x0 (fun b1 => bK b1
 (optK (rdBin P H .add 176 true (some (.int .u32 48)) (some t12)) (fun x2 =>
  optK (rdConv P H 176 5 (some x2)) (fun x3 =>
  optK (rdIndexAddr P 82 (some t0) (some (.int .i64 0))) (fun x4 =>
  effQ (efStore P H nx 5 (some x4) (some x3)) (fun x5 H nx =>
  .ret ⟨.ret (.tuple ⟨[]⟩), false, H, nx⟩)) .bad) .bad) .bad)
 (.ret ⟨.ret (.tuple ⟨[]⟩), false, H, nx⟩)) .bad) .bad := by kernel_rfl
/-! internal/strconv.formatBits -/
noncomputable def l91_6 (t0 : Value) (t1 : Value) (t2 : Value) (t3 : Bool) (t4 : Bool) (t10 : Value) (t11 : Value) (t28 : Bool) (H : T OB) (nx : Nat) : Cfg := .at ⟨91, 102, false, [], none, false⟩ (tmOf [(0, t0), (1, t1), (2, t2), (3, .bool t3), (4, .bool t4), (10, t10), (11, t11), (28, .bool t28)]) (todoOf P 91 6) H nx
noncomputable def l91_16 (t0 : Value) (t1 : Value) (t2 : Value) (t3 : Bool) (t4 : Bool) (t10 : Value) (t11 : Value) (t12 : Value) (t13 : Value) (H : T OB) (nx : Nat) : Cfg := .at ⟨91, 102, false, [], none, false⟩ (tmOf [(0, t0), (1, t1), (2, t2), (3, .bool t3), (4, .bool t4), (10, t10), (11, t11), (12, t12), (13, t13)]) (todoOf P 91 16) H nx
noncomputable def l91_25 (t0 : Value) (t1 : Value) (t3 : Bool) (t4 : Bool) (t10 : Value) (t11 : Value) (t12 : Value) (t13 : Value) (t14 : Value) (t15 : Value) (t16 : Value) (H : T OB) (nx : Nat) : Cfg := .at ⟨91, 102, false, [], none, false⟩ (tmOf [(0, t0), (1, t1), (3, .bool t3), (4, .bool t4), (10, t10), (11, t11), (12, t12), (13, t13), (14, t14), (15, t15), (16, t16)]) (todoOf P 91 25) H nx
noncomputable def l91_39 (t0 : Value) (t1 : Value) (t3 : Bool) (t4 : Bool) (t10 : Value) (t11 : Value) (t12 : Value) (t13 : Value) (t17 : Value) (H : T OB) (nx : Nat) : Cfg := .at ⟨91, 102, false, [], none, false⟩ (tmOf [(0, t0), (1, t1), (3, .bool t3), (4, .bool t4), (10, t10), (11, t11), (12, t12), (13, t13), (17, t17)]) (todoOf P 91 39) H nx
noncomputable def l91_58 (t0 : Value) (t4 : Bool) (t10 : Value) (t11 : Value) (t12 : Value) (t13 : Value) (H : T OB) (nx : Nat) : Cfg := .at ⟨91, 102, false, [], none, false⟩ (tmOf [(0, t0), (4, .bool t4), (10, t10), (11, t11), (12, t12), (13, t13)]) (todoOf P 91 58) H nx
theorem q91 (a0 : Value) (a1 : Value) (a2 : Value) (a3 : Bool) (a4 : Bool) (H : T OB) (nx : Nat) : evT P pl (.call 91 [a0, a1, a2, .bool a3, .bool a4] false none H nx) =
  optK (rdBin P H .lss 3 true (some a2) (some (.int .i64 2))) (fun x0 =>
  bvK x0 (fun b1 => bK b1 (.jump (l91_6 a0 a1 a2 a3 a4 (.slice none 0 0) (.string ⟨⟨[]⟩⟩) true H nx)) (optK (rdBin P H .eql 3 true (some a2) (some (.int .i64 10))) (fun x2 =>
  bvK x2 (fun b3 => bK b3 (.jump (l91_6 a0 a1 a2 a3 a4 (.slice none 0 0) (.string ⟨⟨[]⟩⟩) true H nx)) (optK (rdBin P H .gtr 3 true (some a2) (some (.int .i64 36))) (fun x4 =>
  bvK x4 (fun b5 => .jump (l91_6 a0 a1 a2 a3 a4 (.slice none 0 0) (.string ⟨⟨[]⟩⟩) b5 H nx)) .bad) .bad)) .bad) .bad)) .bad) .bad := by kernel_rfl
theorem q91_6 (t0 : Value) (t1 : Value) (t2 : Value) (t3 : Bool) (t4 : Bool) (t10 : Value) (t11 : Value) (t28 : Bool) (H : T OB) (nx : Nat) : evT P pl (l91_6 t0 t1 t2 t3 t4 t10 t11 t28 H nx) =
  bK t28
 (optK (rdIface P 9 (some (.string ⟨⟨[115, 116, 114, 99, 111, 110, 118, 58, 32, 105, 108, 108, 101, 103, 97, 108, 32, 65, 112, 112, 101, 110, 100, 73, 110, 116, 47, 70, 111, 114, 109, 97, 116, 73, 110, 116, 32, 98, 97, 115, 101]⟩⟩))) (fun x0 =>
  panK x0 H nx) .bad)
 (effQ (efAlloc P H nx 177) (fun x1 H nx =>
  bK t3
 (optK (unV P .neg (some t1)) (fun x2 =>
  .jump (l91_16 t0 x2 t2 t3 t4 t10 t11 x1 (.int .i64 65) H nx)) .bad)
 (.jump (l91_16 t0 t1 t2 t3 t4 t10 t11 x1 (.int .i64 65) H nx)))) := by kernel_rfl
theorem q91_16 (t0 : Value) (t1 : Value) (t2 : Value) (t3 : Bool) (t4 : Bool) (t10 : Value) (t11 : Value) (t12 : Value) (t13 : Value) (H : T OB) (nx : Nat) : evT P pl (l91_16 t0 t1 t2 t3 t4 t10 t11 t12 t13 H nx) =
  callQ (.call 108 [t2] false none H nx) (fun x0 H nx =>
  bvK x0 (fun b1 => bK b1
 (optK (rdConv P H 3 179 (some t2)) (fun x2 =>
  callQ (.call 109 [x2] false none H nx) (fun x3 H nx =>
  optK (rdConv P H 3 179 (some x3)) (fun x4 =>
  optK (rdConv P H 3 161 (some t2)) (fun x5 =>
  optK (rdConv P H 3 179 (some t2)) (fun x6 =>
  optK (rdBin P H .sub 179 true (some x6) (some (.int .u64 1))) (fun x7 =>
  .jump (l91_25 t0 t1 t3 t4 t10 t11 t12 t13 x4 x5 x7 H nx)) .bad) .bad) .bad) .bad) panK) .bad)
 (optK (rdConv P H 3 161 (some t2)) (fun x8 =>
  .jump (l91_39 t0 t1 t3 t4 t10 t11 t12 t13 x8 H nx)) .bad)) .bad) panK := by kernel_rfl
theorem q91_25 (t0 : Value) (t1 : Value) (t3 : Bool) (t4 : Bool) (t10 : Value) (t11 : Value) (t12 : Value) (t13 : Value) (t14 : Value) (t15 : Value) (t16 : Value) (H : T OB) (nx : Nat) : evT P pl (l91_25 t0 t1 t3 t4 t10 t11 t12 t13 t14 t15 t16 H nx) =
  optK (rdBin P H .geq 161 false (some t1) (some t15)) (fun x0 =>
  bvK x0 (fun b1 => bK b1
 (optK (rdBin P H .sub 3 true (some t13) (some (.int .i64 1))) (fun x2 =>
  optK (rdBin P H .and 179 false (some t1) (some t16)) (fun x3 =>
  optK (rdIndex P 9 (some (.string ⟨⟨[48, 49, 50, 51, 52, 53, 54, 55, 56, 57, 97, 98, 99, 100, 101, 102, 103, 104, 105, 106, 107, 108, 109, 110, 111, 112, 113, 114, 115, 116, 117, 118, 119, 120, 121, 122]⟩⟩)) (some x3)) (fun x4 =>
  optK (rdIndexAddr P 177 (some t12) (some x2)) (fun x5 =>
  effQ (efStore P H nx 5 (some x5) (some x4)) (fun x6 H nx =>
  optK (rdBin P H .shr 161 false (some t1) (some t14)) (fun x7 =>
  .jump (l91_25 t0 x7 t3 t4 t10 t11 t12 x2 t14 t15 t16 H nx)) .bad)) .bad) .bad) .bad) .bad)
 (optK (rdBin P H .sub 3 true (some t13) (some (.int .i64 1))) (fun x8 =>
  optK (rdIndex P 9 (some (.string ⟨⟨[48, 49, 50, 51, 52, 53, 54, 55, 56, 57, 97, 98, 99, 100, 101, 102, 103, 104, 105, 106, 107, 108, 109, 110, 111, 112, 113, 114, 115, 116, 117, 118, 119, 120, 121, 122]⟩⟩)) (some t1)) (fun x9 =>
  optK (rdIndexAddr P 177 (some t12) (some x8)) (fun x10 =>
  effQ (efStore P H nx 5 (some x10) (some x9)) (fun x11 H nx =>
  bK t3
 (optK (rdBin P H .sub 3 true (some x8) (some (.int .i64 1))) (fun x12 =>
  optK (rdIndexAddr P 177 (some t12) (some x12)) (fun x13 =>
  effQ (efStore P H nx 5 (some x13) (some (.int .u8 45))) (fun x14 H nx =>
  .jump (l91_58 t0 t4 t10 t11 t12 x12 H nx))) .bad) .bad)
 (.jump (l91_58 t0 t4 t10 t11 t12 x8 H nx)))) .bad) .bad) .bad)) .bad) .bad := by kernel_rfl
theorem q91_39 (t0 : Value) (t1 : Value) (t3 : Bool) (t4 : Bool) (t10 : Value) (t11 : Value) (t12 : Value) (t13 : Value) (t17 : Value) (H : T OB) (nx : Nat) : evT P pl (l91_39 t0 t1 t3 t4 t10 t11 t12 t13 t17 H nx) =
  optK (rdBin P H .geq 161 false (some t1) (some t17)) (fun x0 =>
  bvK x0 (fun b1 => bK b1
 (optK (rdBin P H .sub 3 true (some t13) (some (.int .i64 1))) (fun x2 =>
  optK (rdBin P H .quo 161 false (some t1) (some t17)) (fun x3 =>
  optK (rdBin P H .mul 161 false (some x3) (some t17)) (fun x4 =>
  optK (rdBin P H .sub 161 false (some t1) (some x4)) (fun x5 =>
  optK (rdIndex P 9 (some (.string ⟨⟨[48, 49, 50, 51, 52, 53, 54, 55, 56, 57, 97, 98, 99, 100, 101, 102, 103, 104, 105, 106, 107, 108, 109, 110, 111, 112, 113, 114, 115, 116, 117, 118, 119, 120, 121, 122]⟩⟩)) (some x5)) (fun x6 =>
  optK (rdIndexAddr P 177 (some t12) (some x2)) (fun x7 =>
  effQ (efStore P H nx 5 (some x7) (some x6)) (fun x8 H nx =>
  .jump (l91_39 t0 x3 t3 t4 t10 t11 t12 x2 t17 H nx))) .bad) .bad) .bad) .bad) .bad) .bad)
 (optK (rdBin P H .sub 3 true (some t13) (some (.int .i64 1))) (fun x9 =>
  optK (rdIndex P 9 (some (.string ⟨⟨[48, 49, 50, 51, 52, 53, 54, 55, 56, 57, 97, 98, 99, 100, 101, 102, 103, 104, 105, 106, 107, 108, 109, 110, 111, 112, 113, 114, 115, 116, 117, 118, 119, 120, 121, 122]⟩⟩)) (some t1)) (fun x10 =>
  optK (rdIndexAddr P 177 (some t12) (some x9)) (fun x11 =>
  effQ (efStore P H nx 5 (some x11) (some x10)) (fun x12 H nx =>
  bK t3
 (optK (rdBin P H .sub 3 true (some x9) (some (.int .i64 1))) (fun x13 =>
  optK (rdIndexAddr P 177 (some t12) (some x13)) (fun x14 =>
  effQ (efStore P H nx 5 (some x14) (some (.int .u8 45))) (fun x15 H nx =>
  .jump (l91_58 t0 t4 t10 t11 t12 x13 H nx))) .bad) .bad)
 (.jump (l91_58 t0 t4 t10 t11 t12 x9 H nx)))) .bad) .bad) .bad)) .bad) .bad := by kernel_rfl
theorem q91_58 (t0 : Value) (t4 : Bool) (t10 : Value) (t11 : Value) (t12 : Value) (t13 : Value) (H : T OB) (nx : Nat) : evT P pl (l91_58 t0 t4 t10 t11 t12 t13 H nx) =
  bK t4
 (optK (rdSlice P H 177 (some t12) (some (some t13)) (some none) (some none)) (fun x0 =>
  effQ (efAppS P H nx [82, 82] (some [t0, x0])) (fun x1 H nx =>
  .ret ⟨.ret (.tuple ⟨[x1, t11]⟩), false, H, nx⟩)) .bad)
 (optK (rdSlice P H 177 (some t12) (some (some t13)) (some none) (some none)) (fun x2 =>
  optK (rdConv P H 82 9 (some x2)) (fun x3 =>
  .ret ⟨.ret (.tuple ⟨[t10, x3]⟩), false, H, nx⟩) .bad) .bad) := by kernel_rfl
/-! internal/strconv.log10Pow2 -/
theorem q105 (a0 : Value) (H : T OB) (nx : Nat) : evT P pl (.call 105 [a0] false none H nx) =
  optK (rdBin P H .mul 3 true (some a0) (some (.int .i64 78913))) (fun x0 =>
  optK (rdBin P H .shr 3 true (some x0) (some (.int .u64 18))) (fun x1 =>
  .ret ⟨.ret x1, false, H, nx⟩) .bad) .bad := by kernel_rfl
end
end Go.Proofs.YtcfpakjillacgaaGreatDoor
