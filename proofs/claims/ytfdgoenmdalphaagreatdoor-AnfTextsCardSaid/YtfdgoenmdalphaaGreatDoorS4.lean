/- What steps need; which steps are right. -/
import Derived.Test.YtfdgoenmdalphaaGreatDoorS3
namespace Go.Proofs.YtfdgoenmdalphaaGreatDoor
open Go.Ev Go.RowKit
noncomputable section
set_option maxRecDepth 100000
set_option linter.unusedVariables false
set_option linter.unusedSimpArgs false
theorem zero_3 : zeroC P 3 = some [i64 0] := by kernel_rfl
theorem sm_3 (n : Nat) : apSmall P 3 1 n = (Nat.ble n 1048576 && true) := by kernel_rfl
theorem sm_3' {n : Nat} (h : n ≤ 1048576) : apSmall P 3 1 n = true := by rw [sm_3, Nat.ble_eq_true_of_le h]; rfl
theorem fill_3 (n : Int) : Instr.fill (fun i => some (i * 1, 1)) (zeroRow [i64 0] (1 * 1)) [(0, i64 n)] = some ⟨[i64 n]⟩ := by kernel_rfl
theorem flat_ints (l : List Int) : ((l.map i64).flatMap fun u => u.cells.toList) = l.map i64 := by
  induction l with
  | nil => rfl
  | cons a l ih => rw [List.map_cons, List.flatMap_cons, ih]; rfl
theorem one_ints (l : List Int) : (l.map i64).all (fun x => Ev.bK false true (oneCell x)) = true := by
  induction l with
  | nil => rfl
  | cons a l ih => rw [List.map_cons, List.all_cons, ih]; rfl
theorem pu_62 (v : Value) (l : List Int) (n : Int) (hv : IsI v l) (hl : l.length < 1048576) : Pu 62 [v, i64 n] (ints (l ++ [n])) := Pure.of rfl fun H nx => by
  rw [q62]
  have fin : ∀ (H1 : T OB) (nx1 b : Nat), IsB H1 b ((l ++ [n]).map i64) 3 → nx ≤ b → Ag nx H nx1 H1 → Wq P pl X (frzV P 22 (.slice (some ⟨b, 0, none⟩) (l.length + 1) unk) H1 nx1 fun x3 H nx => .ret ⟨.ret x3, false, H, nx⟩) nx H (ints (l ++ [n])) := by
    intro H1 nx1 b hb hbn hA
    have e1 : ((l ++ [n]).map i64).length = (l.length + 1) * 1 := by simp
    refine Wq.frz und_22 sz_3 agg_3 rfl hb e1 (by rw [show Nat.beq unk unk = true from Nat.beq_refl _]; rfl) (es := (l ++ [n]).map i64) ?_ (one_ints _) hA hbn fun H2 _ hA2 => Wq.ret hA2
    have := chunk_cells ((l ++ [n]).map i64)
    rw [e1, Nat.mul_one] at this
    exact this
  have mid : ∀ (H1 : T OB) (nx1 : Nat) (k : Value → T OB → Nat → Q), l = [] → Ag nx H nx1 H1 → Wq P pl X (effQ (efBuildSlice P H1 nx1 22 1 (some [(0, i64 n)])) fun x1 H nx => effQ (efAppS P H nx [22, 22] (some [.slice none 0 0, x1])) fun x2 H nx => frzV P 22 x2 H nx fun x3 H nx => .ret ⟨.ret x3, false, H, nx⟩) nx H (ints (l ++ [n])) := by
    intro H1 nx1 _ h0 hA
    refine Wq.row und_22 sz_3 zero_3 rfl (fill_3 n) hA fun H2 hb2 _ hA2 => ?_
    refine Wq.app0 und_22 sz_3 rfl (xsOf_b hb2 rfl) (sm_3' (by omega)) hA2 (fun h => by omega) fun H3 _ hb3 _ hA3 => ?_
    subst h0
    exact fin _ _ _ hb3 (by have := hA.1; omega) hA3
  rcases hv with rfl | ⟨rfl, rfl⟩
  · refine Wq.app0 und_22 sz_3 rfl (xsOf_row 1 _) (sm_3' (by simp; omega)) (.refl _ _) (fun h => ?_) fun H1 hm hb1 _ hA1 => ?_
    · exact mid H nx (fun _ _ _ => .bad) (by simpa using h) (.refl _ _)
    · rw [flat_ints] at hb1
      refine Wq.row und_22 sz_3 zero_3 rfl (fill_3 n) hA1 fun H2 hb2 keep hA2 => ?_
      refine Wq.app und_22 sz_3 (keep _ _ _ (by omega) hb1) sz_3 (by simp) rfl (xsOf_b hb2 rfl) rfl (sm_3' (by simp; omega)) hA2 (by omega) (by omega) fun H3 hb3 _ hA3 => ?_
      have := fin H3 _ _ (by rw [List.map_append]; exact hb3) (by omega) hA3
      simpa using this
  · refine Wq.app0 und_22 sz_3 rfl (xsOf_nil 1) (sm_3' (by omega)) (.refl _ _) (fun h => ?_) fun H1 hm => absurd hm (by omega)
    exact mid H nx (fun _ _ _ => .bad) rfl (.refl _ _)
end
end Go.Proofs.YtfdgoenmdalphaaGreatDoor
