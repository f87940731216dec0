/- What functions of the program say, as trees. -/
import Derived.Test.YtcfpakjillacgaaGreatDoorRa0
import Derived.KernelRfl
namespace Go.Proofs.YtcfpakjillacgaaGreatDoor
open Go.Ev Go.RowKit
noncomputable section
set_option linter.unusedVariables false
set_option maxHeartbeats 8000000
/-! math/bits.Len64 -/
noncomputable def l106_10 (t0 : Value) (t2 : Value) (H : T OB) (nx : Nat) : Cfg := .at ⟨106, 25, false, [], none, false⟩ (tmOf [(0, t0), (2, t2)]) (todoOf P 106 10) H nx
noncomputable def l106_16 (t0 : Value) (t2 : Value) (H : T OB) (nx : Nat) : Cfg := .at ⟨106, 25, false, [], none, false⟩ (tmOf [(0, t0), (2, t2)]) (todoOf P 106 16) H nx
noncomputable def l106_22 (t0 : Value) (t2 : Value) (H : T OB) (nx : Nat) : Cfg := .at ⟨106, 25, false, [], none, false⟩ (tmOf [(0, t0), (2, t2)]) (todoOf P 106 22) H nx
theorem q106 (a0 : Value) (H : T OB) (nx : Nat) : evT P pl (.call 106 [a0] false none H nx) =
  optK (rdBin P H .geq 161 true (some a0) (some (.int .u64 4294967296))) (fun x0 =>
  bvK x0 (fun b1 => bK b1
 (optK (rdBin P H .shr 161 true (some a0) (some (.int .u64 32))) (fun x2 =>
  .jump (l106_10 x2 (.int .i64 32) H nx)) .bad)
 (.jump (l106_10 a0 (.int .i64 0) H nx))) .bad) .bad := by kernel_rfl
theorem q106_10 (t0 : Value) (t2 : Value) (H : T OB) (nx : Nat) : evT P pl (l106_10 t0 t2 H nx) =
  optK (rdBin P H .geq 161 true (some t0) (some (.int .u64 65536))) (fun x0 =>
  bvK x0 (fun b1 => bK b1
 (optK (rdBin P H .shr 161 true (some t0) (some (.int .u64 16))) (fun x2 =>
  optK (rdBin P H .add 3 true (some t2) (some (.int .i64 16))) (fun x3 =>
  .jump (l106_16 x2 x3 H nx)) .bad) .bad)
 (.jump (l106_16 t0 t2 H nx))) .bad) .bad := by kernel_rfl
theorem q106_16 (t0 : Value) (t2 : Value) (H : T OB) (nx : Nat) : evT P pl (l106_16 t0 t2 H nx) =
  optK (rdBin P H .geq 161 true (some t0) (some (.int .u64 256))) (fun x0 =>
  bvK x0 (fun b1 => bK b1
 (optK (rdBin P H .shr 161 true (some t0) (some (.int .u64 8))) (fun x2 =>
  optK (rdBin P H .add 3 true (some t2) (some (.int .i64 8))) (fun x3 =>
  .jump (l106_22 x2 x3 H nx)) .bad) .bad)
 (.jump (l106_22 t0 t2 H nx))) .bad) .bad := by kernel_rfl
theorem q106_22 (t0 : Value) (t2 : Value) (H : T OB) (nx : Nat) : evT P pl (l106_22 t0 t2 H nx) =
  optK (rdConv P H 161 5 (some t0)) (fun x0 =>
  optK (rdIndex P 9 (some (.string ⟨⟨[0, 1, 2, 2, 3, 3, 3, 3, 4, 4, 4, 4, 4, 4, 4, 4, 5, 5, 5, 5, 5, 5, 5, 5, 5, 5, 5, 5, 5, 5, 5, 5, 6, 6, 6, 6, 6, 6, 6, 6, 6, 6, 6, 6, 6, 6, 6, 6, 6, 6, 6, 6, 6, 6, 6, 6, 6, 6, 6, 6, 6, 6, 6, 6, 7, 7, 7, 7, 7, 7, 7, 7, 7, 7, 7, 7, 7, 7, 7, 7, 7, 7, 7, 7, 7, 7, 7, 7, 7, 7, 7, 7, 7, 7, 7, 7, 7, 7, 7, 7, 7, 7, 7, 7, 7, 7, 7, 7, 7, 7, 7, 7, 7, 7, 7, 7, 7, 7, 7, 7, 7, 7, 7, 7, 7, 7, 7, 7, 8, 8, 8, 8, 8, 8, 8, 8, 8, 8, 8, 8, 8, 8, 8, 8, 8, 8, 8, 8, 8, 8, 8, 8, 8, 8, 8, 8, 8, 8, 8, 8, 8, 8, 8, 8, 8, 8, 8, 8, 8, 8, 8, 8, 8, 8, 8, 8, 8, 8, 8, 8, 8, 8, 8, 8, 8, 8, 8, 8, 8, 8, 8, 8, 8, 8, 8, 8, 8, 8, 8, 8, 8, 8, 8, 8, 8, 8, 8, 8, 8, 8, 8, 8, 8, 8, 8, 8, 8, 8, 8, 8, 8, 8, 8, 8, 8, 8, 8, 8, 8, 8, 8, 8, 8, 8, 8, 8, 8, 8, 8, 8, 8, 8, 8, 8, 8, 8, 8, 8, 8, 8, 8, 8, 8, 8, 8, 8]⟩⟩)) (some x0)) (fun x1 =>
  optK (rdConv P H 5 3 (some x1)) (fun x2 =>
  optK (rdBin P H .add 3 false (some t2) (some x2)) (fun x3 =>
  .ret ⟨.ret x3, false, H, nx⟩) .bad) .bad) .bad) .bad := by kernel_rfl
/-! internal/strconv.bool2[int] -/
theorem q107 (a0 : Bool) (H : T OB) (nx : Nat) : evT P pl (.call 107 [.bool a0] false none H nx) =
  bK a0
 (.ret ⟨.ret (.int .i64 1), false, H, nx⟩)
 (.ret ⟨.ret (.int .i64 0), false, H, nx⟩) := by kernel_rfl
/-! internal/strconv.isPowerOfTwo -/
theorem q108 (a0 : Value) (H : T OB) (nx : Nat) : evT P pl (.call 108 [a0] false none H nx) =
  optK (rdBin P H .sub 3 true (some a0) (some (.int .i64 1))) (fun x0 =>
  optK (rdBin P H .and 3 false (some a0) (some x0)) (fun x1 =>
  optK (rdBin P H .eql 3 true (some x1) (some (.int .i64 0))) (fun x2 =>
  bvK x2 (fun b3 => .ret ⟨.ret (.bool b3), false, H, nx⟩) .bad) .bad) .bad) .bad := by kernel_rfl
/-! math/bits.TrailingZeros -/
theorem q109 (a0 : Value) (H : T OB) (nx : Nat) : evT P pl (.call 109 [a0] false none H nx) =
  callQ (.call 124 [a0] false none H nx) (fun x0 H nx =>
  .ret ⟨.ret x0, false, H, nx⟩) panK := by kernel_rfl
/-! math/bits.TrailingZeros64 -/
theorem q124 (a0 : Value) (H : T OB) (nx : Nat) : evT P pl (.call 124 [a0] false none H nx) =
  optK (rdBin P H .eql 161 true (some a0) (some (.int .u64 0))) (fun x0 =>
  bvK x0 (fun b1 => bK b1
 (.ret ⟨.ret (.int .i64 64), false, H, nx⟩)
 (optK (unV P .neg (some a0)) (fun x2 =>
  optK (rdBin P H .and 161 false (some a0) (some x2)) (fun x3 =>
  optK (rdBin P H .mul 161 true (some x3) (some (.int .u64 285870213051353865))) (fun x4 =>
  optK (rdBin P H .shr 161 true (some x4) (some (.int .u64 58))) (fun x5 =>
  optK (rdIndexAddr P 192 (some (.pointer (some ⟨6, 0, none⟩))) (some x5)) (fun x6 =>
  optK (rdLoad P H 5 (some x6)) (fun x7 =>
  optK (rdConv P H 5 3 (some x7)) (fun x8 =>
  .ret ⟨.ret x8, false, H, nx⟩) .bad) .bad) .bad) .bad) .bad) .bad) .bad)) .bad) .bad := by kernel_rfl
end
end Go.Proofs.YtcfpakjillacgaaGreatDoor
