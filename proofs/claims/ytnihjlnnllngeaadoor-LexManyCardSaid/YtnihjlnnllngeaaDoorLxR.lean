/- A text as a run of tokens: how it is cut, joined, moved. No program here. -/
import Derived.Test.YtnihjlnnllngeaaDoorLxJ
namespace Go.Proofs.YtnihjlnnllngeaaDoor.Lx
open Go.RowKit Go.Proofs.YtnihjlnnllngeaaDoorW.PrintWords Go.Proofs.YtnihjlnnllngeaaDoor.PL
set_option linter.unusedVariables false
set_option linter.unusedSimpArgs false
set_option linter.unusedSectionVars false

/-- A comment's length hangs on its own bytes alone. -/
theorem cmt_pre : ∀ (d : Nat) (l l' : List Nat) (n : Nat), cmt d l = some n → l'.take n = l.take n → cmt d l' = some n
  | _, [], l', n, h, _ => by simp [cmt] at h
  | _, [_], l', n, h, _ => by simp [cmt] at h
  | d, c :: e :: r, l', n, h, ht => by
    have hn := (cmt_le _ _ _ h).1
    obtain ⟨m, rfl⟩ : ∃ m, n = m + 2 := ⟨n - 2, by omega⟩
    obtain ⟨r', rfl⟩ : ∃ r', l' = c :: e :: r' := by
      match l' with
      | [] => simp at ht
      | [x] => simp at ht
      | x :: y :: r' => simp at ht; exact ⟨r', by rw [ht.1, ht.2.1]⟩
    have ht2 : r'.take m = r.take m := by simpa using ht
    rw [cmt] at h ⊢
    split at h
    · rename_i c1
      rw [if_pos c1]
      obtain ⟨x, hx, he⟩ := Option.map_eq_some_iff.1 h
      obtain rfl : x = m := by omega
      rw [cmt_pre _ r r' x hx ht2]; rfl
    · rename_i c1
      rw [if_neg c1]
      split at h
      · rename_i c2
        rw [if_pos c2]
        split at h
        · rename_i c3; rw [if_pos c3]; exact h
        · rename_i c3
          rw [if_neg c3]
          obtain ⟨x, hx, he⟩ := Option.map_eq_some_iff.1 h
          obtain rfl : x = m := by omega
          rw [cmt_pre _ r r' x hx ht2]; rfl
      · rename_i c2
        rw [if_neg c2]
        obtain ⟨x, hx, he⟩ := Option.map_eq_some_iff.1 h
        obtain rfl : x = m + 1 := by omega
        rw [cmt_pre _ (e :: r) (e :: r') (m + 1) hx (by simpa using ht2)]; rfl
termination_by _ l => l.length
decreasing_by all_goals (simp; try omega)
/-- What is passed by hangs on its own bytes; then it goes on. -/
theorem skip_pre (N : Nat) : ∀ (l l' : List Nat) (n : Nat), l.length ≤ N → skip l = (n, true) → l'.take n = l.take n → skip l' = (n + (skip (l'.drop n)).1, (skip (l'.drop n)).2) := by
  induction N with
  | zero =>
    intro l l' n hN h ht
    obtain rfl : l = [] := List.eq_nil_of_length_eq_zero (by omega)
    obtain rfl : n = 0 := by simp [skip] at h; omega
    simp
  | succ N ih =>
    intro l l' n hN h ht
    cases l with
    | nil =>
      obtain rfl : n = 0 := by simp [skip] at h; omega
      simp
    | cons c r =>
      by_cases hw : ws c = true
      · rw [skip_ws hw] at h
        obtain ⟨h1, h2⟩ := Prod.mk.inj h
        obtain ⟨m, rfl⟩ : ∃ m, n = m + 1 := ⟨n - 1, by omega⟩
        obtain ⟨r', rfl⟩ : ∃ r', l' = c :: r' := by
          cases l' with
          | nil => simp at ht
          | cons x r' => simp at ht; exact ⟨r', by rw [ht.1]⟩
        have := ih r r' m (by simp at hN; omega) (Prod.ext (by simpa using h1) h2) (by simpa using ht)
        rw [skip_ws hw, this]
        simp; omega
      · by_cases ho : c = 40 ∧ r.head? = some 42
        · obtain ⟨rfl, ho⟩ := ho
          obtain ⟨t, rfl⟩ := head_ex ho
          rw [skip_open] at h
          cases hc : cmt 1 t with
          | none => rw [hc] at h; simp at h
          | some m =>
            rw [hc] at h
            obtain ⟨h1, h2⟩ := Prod.mk.inj h
            have hm := cmt_le 1 t m hc
            obtain ⟨x, rfl⟩ : ∃ x, n = x + (m + 2) := ⟨n - (m + 2), by omega⟩
            obtain ⟨t', rfl⟩ : ∃ t', l' = 40 :: 42 :: t' := by
              match l' with
              | [] => simp at ht
              | [y] => rw [show x + (m + 2) = (x + m) + 2 by omega] at ht; simp at ht
              | y :: z :: t' => rw [show x + (m + 2) = (x + m) + 2 by omega] at ht; simp at ht; exact ⟨t', by rw [ht.1, ht.2.1]⟩
            have ht2 : t'.take (x + m) = t.take (x + m) := by
              rw [show x + (m + 2) = (x + m) + 2 by omega] at ht; simpa using ht
            have hc2 : cmt 1 t' = some m := cmt_pre 1 t t' m hc (by
              have := congrArg (List.take m) ht2
              rwa [List.take_take, List.take_take, Nat.min_eq_left (by omega)] at this)
            have hd : (t'.drop m).take x = (t.drop m).take x := by
              have := congrArg (List.drop m) ht2
              rwa [List.drop_take, List.drop_take, Nat.add_sub_cancel] at this
            have := ih (t.drop m) (t'.drop m) x (by simp at hN; rw [List.length_drop]; omega) (Prod.ext (by simpa using h1) h2) hd
            rw [skip_open, hc2]
            simp only
            rw [this]
            rw [show (40 :: 42 :: t').drop (x + (m + 2)) = (t'.drop m).drop x by rw [List.drop_drop, show x + (m + 2) = (m + x) + 2 by omega]; rfl]
            simp; omega
        · rw [skip_else hw ho] at h
          obtain rfl : n = 0 := by simp at h; omega
          simp
end Go.Proofs.YtnihjlnnllngeaaDoor.Lx
