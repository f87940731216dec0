/- An environment that is not there: what its methods answer; the law, if the fixed calls are right. -/
import Derived.Test.YtnlpbmifjdkejaaGreatDoorProg
import Derived.WalkKit
import Derived.KernelRfl
import Derived.Below
import Derived.RowKit
import Derived.BigFrame
import Derived.Laws.Rows
import Derived.Outline
import Derived.Test.YtnlpbmifjdkejaaGreatDoorFvO
namespace Go.Proofs.YtnlpbmifjdkejaaGreatDoor.Tn
open Go.RowKit
set_option linter.unusedVariables false
set_option linter.unusedSimpArgs false
theorem below_step {w W w2 : World} (h : Below w.heap.size w W) (k : Below W.heap.size W w2) : Below w.heap.size w w2 := by
  have hs := h.size
  obtain ⟨k1, k2, k3, k4, k5⟩ := k
  exact h.trans ⟨k1, k2, k3, k4, fun i hi => k5 i (by omega)⟩
set_option maxRecDepth 100000 in
theorem add_nil (v : Value) (w : World) : Calls Tryz.prog 4 #[.pointer none, v] w fun e w' => e = .returned (.tuple #[.slice none 0 0, .int .i64 0, .int .i64 2]) ∧ w' = w := by
  go_enter Tryz.func4, Tryz.ntmps4
  go_wp2
  refine bodyPost_ret (results_tmp3 rfl _ _ _) rfl ?_
  exact ⟨rfl, rfl⟩
theorem find_nil (s : ByteArray) {w : World} (hsz : 7 ≤ w.heap.size) : Calls Tryz.prog 5 #[.pointer none, .string s] w fun e w' => e = .returned (.tuple #[.agg #[.int .i64 0, .int .i64 0, .int .i64 0, .string ByteArray.empty, .slice none 0 0], .bool false]) ∧ Below w.heap.size w w' :=
  Go.Ev.calls_of_evalsG (P := Tryz.prog) (n := 20) (args := [.pointer none, .string s]) (tabs := []) (by kernel_rfl) hsz (fun _ h => by cases h) (fun x hx => by rcases List.mem_cons.1 hx with rfl | hx; rfl; rcases List.mem_cons.1 hx with rfl | hx; rfl; cases hx) rfl (by kernel_rfl)
theorem stamps_nil (w : World) : Calls Tryz.prog 6 #[.pointer none] w fun e w' => e = .returned (.tuple #[.int .i64 0, .int .i64 0]) ∧ w' = w := by
  go_enter Tryz.func6, Tryz.ntmps6
  go_wp2
  refine bodyPost_ret (results_tmp2 rfl _ _ _) rfl ?_
  exact ⟨rfl, rfl⟩
theorem values_nil (w : World) : Calls Tryz.prog 7 #[.pointer none] w fun e w' => e = .returned (.slice none 0 0) ∧ w' = w := by
  go_enter Tryz.func7, Tryz.ntmps7
  go_wp2
  all_goals go_ret
  all_goals exact ⟨rfl, rfl⟩
theorem makers_nil (w : World) : Calls Tryz.prog 8 #[.pointer none] w fun e w' => e = .returned (.slice none 0 0) ∧ w' = w := by
  go_enter Tryz.func8, Tryz.ntmps8
  go_wp2
  all_goals go_ret
  all_goals exact ⟨rfl, rfl⟩
theorem copy_nil (w : World) : Calls Tryz.prog 9 #[.pointer none] w fun e w' => e = .returned (.pointer none) ∧ w' = w := by
  go_enter Tryz.func9, Tryz.ntmps9
  go_wp2
  all_goals go_ret
  all_goals exact ⟨rfl, rfl⟩
abbrev KnownOk (G : World → Prop) : Prop := ∀ w : World, G w → Calls Tryz.prog 10 #[] w fun e w' => e = .returned (.bool true) ∧ Below w.heap.size w w'
set_option maxHeartbeats 4000000 in
set_option maxRecDepth 100000 in
theorem nil_law {G : World → Prop} (hk : KnownOk G) (hG : ∀ w w', Below w.heap.size w w' → G w → G w') (v : Value) (s : ByteArray) (w : World) (hg : G w) (hsz : 7 ≤ w.heap.size) :
    Calls Tryz.prog 3 #[v, .string s] w fun e w' => e = .returned (.bool true) ∧ Below w.heap.size w w' := by
  go_enter Tryz.func3, Tryz.ntmps3
  go_wp2_with (first
    | (go_at_call 4; (with_reducible refine (add_nil _ _).mono ?_); rintro e w' ⟨rfl, rfl⟩)
    | (go_at_call 5; (with_reducible refine (find_nil _ hsz).mono ?_); rintro e w' ⟨rfl, hb5⟩)
    | (go_at_call 6; (with_reducible refine (stamps_nil _).mono ?_); rintro e w' ⟨rfl, rfl⟩)
    | (go_at_call 7; (with_reducible refine (values_nil _).mono ?_); rintro e w' ⟨rfl, rfl⟩)
    | (go_at_call 8; (with_reducible refine (makers_nil _).mono ?_); rintro e w' ⟨rfl, rfl⟩)
    | (go_at_call 9; (with_reducible refine (copy_nil _).mono ?_); rintro e w' ⟨rfl, rfl⟩)
    | (go_at_call 10; (with_reducible refine (hk _ (hG _ _ (hb5.alloc hb5.size _) hg)).mono ?_); rintro e w' ⟨rfl, hb⟩))
  all_goals go_ret
  all_goals exact ⟨rfl, below_step (hb5.alloc hb5.size _) hb⟩
end Go.Proofs.YtnlpbmifjdkejaaGreatDoor.Tn
