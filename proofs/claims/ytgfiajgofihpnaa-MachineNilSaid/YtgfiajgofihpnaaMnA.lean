/- A machine that is not there: what its methods answer; the law, if the fixed calls are right. -/
import Derived.Test.YtgfiajgofihpnaaProg
import Derived.WalkKit
import Derived.KernelRfl
import Derived.Below
import Derived.RowKit
import Derived.BigFrame
import Derived.Laws.Rows
import Derived.Outline
namespace Go.Proofs.Ytgfiajgofihpnaa.Mn
open Go.RowKit
set_option linter.unusedVariables false
set_option linter.unusedSimpArgs false
theorem below_step {w W w2 : World} (h : Below w.heap.size w W) (k : Below W.heap.size W w2) : Below w.heap.size w w2 := by
  have hs := h.size
  obtain ⟨k1, k2, k3, k4, k5⟩ := k
  exact h.trans ⟨k1, k2, k3, k4, fun i hi => k5 i (by omega)⟩
theorem clear_nil (n : Int) (w : World) : Calls Try.prog 4 #[.pointer none, .int .i64 n] w fun e w' => (∃ v, e = .returned v) ∧ w' = w := by
  go_enter Try.func4, Try.ntmps4
  go_wp2
  all_goals go_end0
  all_goals exact ⟨⟨_, rfl⟩, rfl⟩
theorem collect_nil (w : World) : Calls Try.prog 5 #[.pointer none] w fun e w' => (∃ v, e = .returned v) ∧ w' = w := by
  go_enter Try.func5, Try.ntmps5
  go_wp2
  refine bodyPost_ret (results_none rfl _ _ _) rfl ?_
  exact ⟨⟨_, rfl⟩, rfl⟩
theorem memory_nil (w : World) : Calls Try.prog 6 #[.pointer none] w fun e w' => e = .returned (.pointer none) ∧ w' = w := by
  go_enter Try.func6, Try.ntmps6
  go_wp2
  all_goals go_ret
  all_goals exact ⟨rfl, rfl⟩
set_option maxRecDepth 100000 in
theorem load_nil (v : Value) (w : World) : Calls Try.prog 7 #[.pointer none, v] w fun e w' => e = .returned (.int .i64 2) ∧ w' = w := by
  go_enter Try.func7, Try.ntmps7
  go_wp2
  all_goals go_ret
  all_goals exact ⟨rfl, rfl⟩
theorem run_nil (a b c : Value) (w : World) : Calls Try.prog 8 #[.pointer none, a, b, c] w fun e w' => e = .returned (.agg #[.int .i64 0, .int .i64 0]) ∧ Below w.heap.size w w' := by
  go_enter Try.func8, Try.ntmps8
  go_wp2
  refine bodyPost_ret (v := .agg #[.int .i64 0, .int .i64 0]) (results_cell_row rfl _ _ w.heap.size 30 #[.int .i64 0, .int .i64 0] (0, 0) _ rfl (heap_alloc_new _ _) Try.underlying30 rfl (by kernel_rfl)) rfl ⟨rfl, ?_⟩
  exact (Below.refl _ _).alloc (Nat.le_refl _) _
theorem value_nil (w : World) : Calls Try.prog 9 #[.pointer none] w fun e w' => e = .returned (.int .u64 0) ∧ w' = w := by
  go_enter Try.func9, Try.ntmps9
  go_wp2
  all_goals go_ret
  all_goals exact ⟨rfl, rfl⟩
theorem global_nil (a : Value) (w : World) : Calls Try.prog 10 #[.pointer none, a] w fun e w' => e = .returned (.int .u64 0) ∧ w' = w := by
  go_enter Try.func10, Try.ntmps10
  go_wp2
  all_goals go_ret
  all_goals exact ⟨rfl, rfl⟩
theorem live_nil (w : World) : Calls Try.prog 11 #[.pointer none] w fun e w' => e = .returned (.int .i64 0) ∧ w' = w := by
  go_enter Try.func11, Try.ntmps11
  go_wp2
  all_goals go_ret
  all_goals exact ⟨rfl, rfl⟩
theorem copy_nil (w : World) : Calls Try.prog 12 #[.pointer none] w fun e w' => e = .returned (.pointer none) ∧ w' = w := by
  go_enter Try.func12, Try.ntmps12
  go_wp2
  all_goals go_ret
  all_goals exact ⟨rfl, rfl⟩
abbrev KnownOk : Prop := ∀ w : World, Calls Try.prog 13 #[] w fun e w' => e = .returned (.bool true) ∧ Below w.heap.size w w'
set_option maxHeartbeats 2000000 in
theorem nil_law (hk : KnownOk) (n : Int) (v : Value) (w : World) : Calls Try.prog 3 #[.int .i64 n, v] w fun e w' => e = .returned (.bool true) ∧ Below w.heap.size w w' := by
  go_enter Try.func3, Try.ntmps3
  go_wp2_with (first
    | (go_at_call 4; (with_reducible refine (clear_nil _ _).mono ?_); rintro e w' ⟨⟨v4, rfl⟩, rfl⟩)
    | (go_at_call 5; (with_reducible refine (collect_nil _).mono ?_); rintro e w' ⟨⟨v5, rfl⟩, rfl⟩)
    | (go_at_call 6; (with_reducible refine (memory_nil _).mono ?_); rintro e w' ⟨rfl, rfl⟩)
    | (go_at_call 7; (with_reducible refine (load_nil _ _).mono ?_); rintro e w' ⟨rfl, rfl⟩)
    | (go_at_call 8; (with_reducible refine (run_nil _ _ _ _).mono ?_); rintro e w' ⟨rfl, hb8⟩)
    | (go_at_call 9; (with_reducible refine (value_nil _).mono ?_); rintro e w' ⟨rfl, rfl⟩)
    | (go_at_call 10; (with_reducible refine (global_nil _ _).mono ?_); rintro e w' ⟨rfl, rfl⟩)
    | (go_at_call 11; (with_reducible refine (live_nil _).mono ?_); rintro e w' ⟨rfl, rfl⟩)
    | (go_at_call 12; (with_reducible refine (copy_nil _).mono ?_); rintro e w' ⟨rfl, rfl⟩)
    | (go_at_call 13; (with_reducible refine (hk _).mono ?_); rintro e w' ⟨rfl, hb⟩))
  all_goals go_ret
  all_goals exact ⟨rfl, below_step hb8 hb⟩
end Go.Proofs.Ytgfiajgofihpnaa.Mn
