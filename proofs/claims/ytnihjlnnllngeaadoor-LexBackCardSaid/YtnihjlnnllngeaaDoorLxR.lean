/- A text as a run of tokens: how it is cut, joined, moved. No program here. -/
import Derived.Test.YtnihjlnnllngeaaDoorLxJ
namespace Go.Proofs.YtnihjlnnllngeaaDoor.Lx
open Go.RowKit Go.Proofs.YtnihjlnnllngeaaDoorW.PrintWords Go.Proofs.YtnihjlnnllngeaaDoor.PL
set_option linter.unusedVariables false
set_option linter.unusedSimpArgs false
set_option linter.unusedSectionVars false

/-- A comment's length hangs on its own bytes alone. -/
theorem cmt_pre : ∀ (d : Nat) (l l' : List Nat) (n : Nat), cmt d l = some n → l'.take n = l.take n → cmt d l' = some n
  | _, [], l', n, h, _ => by simp [cmt] at h
  | _, [_], l', n, h, _ => by simp [cmt] at h
  | d, c :: e :: r, l', n, h, ht => by
    have hn := (cmt_le _ _ _ h).1
    obtain ⟨m, rfl⟩ : ∃ m, n = m + 2 := ⟨n - 2, by omega⟩
    obtain ⟨r', rfl⟩ : ∃ r', l' = c :: e :: r' := by
      match l' with
      | [] => simp at ht
      | [x] => simp at ht
      | x :: y :: r' => simp at ht; exact ⟨r', by rw [ht.1, ht.2.1]⟩
    have ht2 : r'.take m = r.take m := by simpa using ht
    rw [cmt] at h ⊢
    split at h
    · rename_i c1
      rw [if_pos c1]
      obtain ⟨x, hx, he⟩ := Option.map_eq_some_iff.1 h
      obtain rfl : x = m := by omega
      rw [cmt_pre _ r r' x hx ht2]; rfl
    · rename_i c1
      rw [if_neg c1]
      split at h
      · rename_i c2
        rw [if_pos c2]
        split at h
        · rename_i c3; rw [if_pos c3]; exact h
        · rename_i c3
          rw [if_neg c3]
          obtain ⟨x, hx, he⟩ := Option.map_eq_some_iff.1 h
          obtain rfl : x = m := by omega
          rw [cmt_pre _ r r' x hx ht2]; rfl
      · rename_i c2
        rw [if_neg c2]
        obtain ⟨x, hx, he⟩ := Option.map_eq_some_iff.1 h
        obtain rfl : x = m + 1 := by omega
        rw [cmt_pre _ (e :: r) (e :: r') (m + 1) hx (by simpa using ht2)]; rfl
termination_by _ l => l.length
decreasing_by all_goals (simp; try omega)
/-- What is passed by hangs on its own bytes; then it goes on. -/
theorem skip_pre (N : Nat) : ∀ (l l' : List Nat) (n : Nat), l.length ≤ N → skip l = (n, true) → l'.take n = l.take n → skip l' = (n + (skip (l'.drop n)).1, (skip (l'.drop n)).2) := by
  induction N with
  | zero =>
    intro l l' n hN h ht
    obtain rfl : l = [] := List.eq_nil_of_length_eq_zero (by omega)
    obtain rfl : n = 0 := by simp [skip] at h; omega
    simp
  | succ N ih =>
    intro l l' n hN h ht
    cases l with
    | nil =>
      obtain rfl : n = 0 := by simp [skip] at h; omega
      simp
    | cons c r =>
      by_cases hw : ws c = true
      · rw [skip_ws hw] at h
        obtain ⟨h1, h2⟩ := Prod.mk.inj h
        obtain ⟨m, rfl⟩ : ∃ m, n = m + 1 := ⟨n - 1, by omega⟩
        obtain ⟨r', rfl⟩ : ∃ r', l' = c :: r' := by
          cases l' with
          | nil => simp at ht
          | cons x r' => simp at ht; exact ⟨r', by rw [ht.1]⟩
        have := ih r r' m (by simp at hN; omega) (Prod.ext (by simpa using h1) h2) (by simpa using ht)
        rw [skip_ws hw, this]
        simp; omega
      · by_cases ho : c = 40 ∧ r.head? = some 42
        · obtain ⟨rfl, ho⟩ := ho
          obtain ⟨t, rfl⟩ := head_ex ho
          rw [skip_open] at h
          cases hc : cmt 1 t with
          | none => rw [hc] at h; simp at h
          | some m =>
            rw [hc] at h
            obtain ⟨h1, h2⟩ := Prod.mk.inj h
            have hm := cmt_le 1 t m hc
            obtain ⟨x, rfl⟩ : ∃ x, n = x + (m + 2) := ⟨n - (m + 2), by omega⟩
            obtain ⟨t', rfl⟩ : ∃ t', l' = 40 :: 42 :: t' := by
              match l' with
              | [] => simp at ht
              | [y] => rw [show x + (m + 2) = (x + m) + 2 by omega] at ht; simp at ht
              | y :: z :: t' => rw [show x + (m + 2) = (x + m) + 2 by omega] at ht; simp at ht; exact ⟨t', by rw [ht.1, ht.2.1]⟩
            have ht2 : t'.take (x + m) = t.take (x + m) := by
              rw [show x + (m + 2) = (x + m) + 2 by omega] at ht; simpa using ht
            have hc2 : cmt 1 t' = some m := cmt_pre 1 t t' m hc (by
              have := congrArg (List.take m) ht2
              rwa [List.take_take, List.take_take, Nat.min_eq_left (by omega)] at this)
            have hd : (t'.drop m).take x = (t.drop m).take x := by
              have := congrArg (List.drop m) ht2
              rwa [List.drop_take, List.drop_take, Nat.add_sub_cancel] at this
            have := ih (t.drop m) (t'.drop m) x (by simp at hN; rw [List.length_drop]; omega) (Prod.ext (by simpa using h1) h2) hd
            rw [skip_open, hc2]
            simp only
            rw [this]
            rw [show (40 :: 42 :: t').drop (x + (m + 2)) = (t'.drop m).drop x by rw [List.drop_drop, show x + (m + 2) = (m + x) + 2 by omega]; rfl]
            simp; omega
        · rw [skip_else hw ho] at h
          obtain rfl : n = 0 := by simp at h; omega
          simp
/-- What may stand behind a token and change nothing of it. -/
def sepH : Option Nat → Prop
  | none => True
  | some c => ws c = true ∨ c = 40
theorem sepH_not {p : Nat → Bool} {o : Option Nat} (h : sepH o) (h9 : p 9 = false) (h10 : p 10 = false) (h13 : p 13 = false) (h32 : p 32 = false) (h40 : p 40 = false) : ∀ c, o = some c → p c = false := by
  rintro c rfl
  rcases h with h | rfl
  · simp only [ws, Bool.or_eq_true, beq_iff_eq] at h
    rcases h with ((rfl | rfl) | rfl) | rfl <;> assumption
  · exact h40
theorem tw_head {p : Nat → Bool} : ∀ (l : List Nat) (c : Nat), (l.drop (l.takeWhile p).length).head? = some c → p c = false
  | [], c, h => by simp at h
  | x :: r, c, h => by
    by_cases hx : p x = true
    · rw [List.takeWhile_cons_of_pos hx] at h
      exact tw_head r c (by simpa using h)
    · rw [List.takeWhile_cons_of_neg hx] at h
      simp at h; subst h
      simpa using hx
theorem tw_cut {p : Nat → Bool} : ∀ (l l' : List Nat), l'.take (l.takeWhile p).length = l.take (l.takeWhile p).length → (∀ c, (l'.drop (l.takeWhile p).length).head? = some c → p c = false) → l'.takeWhile p = l.takeWhile p
  | [], l', h, hn => by
    cases l' with
    | nil => rfl
    | cons x r => rw [List.takeWhile_cons_of_neg (by rw [hn x (by simp)]; simp)]; rfl
  | x :: r, l', h, hn => by
    by_cases hx : p x = true
    · rw [List.takeWhile_cons_of_pos hx] at h hn ⊢
      cases l' with
      | nil => simp at h
      | cons y r' =>
        simp at h
        obtain ⟨rfl, h⟩ := h
        rw [List.takeWhile_cons_of_pos hx, tw_cut r r' h (fun c hc => hn c (by simpa using hc))]
    · rw [List.takeWhile_cons_of_neg hx] at hn ⊢
      cases l' with
      | nil => rfl
      | cons y r' => rw [List.takeWhile_cons_of_neg (by rw [hn y (by simp)]; simp)]
theorem find_mono {p p' : ByteArray → Bool} {x : ByteArray} : ∀ L : List ByteArray, (∀ y ∈ L, p' y = true → p y = true) → L.find? p = some x → p' x = true → L.find? p' = some x
  | [], _, h, _ => by simp at h
  | y :: L, hm, h, hx => by
    rw [List.find?_cons] at h ⊢
    cases hp : p' y with
    | true => rw [hm y (by simp) hp] at h; exact h
    | false =>
      cases hq : p y with
      | true => rw [hq] at h; simp at h; subst h; rw [hx] at hp; cases hp
      | false => rw [hq] at h; exact find_mono L (fun z hz => hm z (by simp [hz])) h hx
theorem isPre_iff {q x : ByteArray} : isPre q x = true ↔ (B q).take x.size = B x := by
  unfold isPre
  rw [decide_eq_true_iff]
  constructor
  · intro h; rw [← B_pre, h]
  · intro h; exact B_inj (by rw [B_pre, h])
def sgn2 (l : List Nat) : Bool := match l with
  | [] => false
  | [_] => true
  | [_, d] => !(d == 9) && !(d == 10) && !(d == 13) && !(d == 32) && !(d == 40)
  | _ => false
theorem signs_two : ∀ x ∈ lG0, sgn2 (B x) = true := by decide
theorem sgn2_sep {a d : Nat} (h : sgn2 [a, d] = true) (hs : sepH (some d)) : False := by
  rcases hs with h2 | rfl
  · simp only [ws, Bool.or_eq_true, beq_iff_eq] at h2
    rcases h2 with ((rfl | rfl) | rfl) | rfl <;> simp [sgn2] at h
  · simp [sgn2] at h
/-- A token hangs on its own bytes and on the one behind it. -/
theorem lexS_cut {q q' : ByteArray} {a v : Int} {b : ByteArray} {k : Nat} (h : lexS q = some (a, b, v, k)) (hk : 0 < k) (hp : (B q').take k = (B q).take k)
    (hs : ((B q').drop k).head? = ((B q).drop k).head? ∨ sepH ((B q').drop k).head?) : lexS q' = some (a, b, v, k) := by
  have hx : q'.extract 0 k = q.extract 0 k := B_inj (by rw [B_pre, B_pre, hp])
  cases hq : B q with
  | nil => rw [lexS, hq] at h; simp at h
  | cons c r =>
    obtain ⟨k, rfl⟩ : ∃ j, k = j + 1 := ⟨k - 1, by omega⟩
    cases hq' : B q' with
    | nil => rw [hq, hq'] at hp; simp at hp
    | cons c' r' =>
      rw [hq, hq'] at hp hs
      have hp0 := hp
      simp at hp
      obtain ⟨rfl, hp⟩ := hp
      rw [lexS, hq] at h
      rw [lexS, hq']
      simp only at h ⊢
      simp only [List.drop_succ_cons] at hs
      by_cases c1 : dig c' = true
      · rw [if_pos c1] at h ⊢
        obtain ⟨n, hn, e⟩ := Option.map_eq_some_iff.1 h
        simp only [Prod.mk.injEq] at e
        obtain ⟨rfl, rfl, rfl, e⟩ := e
        have ht : (c' :: r').takeWhile dig = (c' :: r).takeWhile dig := by
          refine tw_cut _ _ (by rw [e]; exact hp0) fun d hd => ?_
          rw [e] at hd
          rcases hs with hs | hs
          · refine tw_head (c' :: r) d ?_
            rw [e, List.drop_succ_cons, ← hs]
            exact hd
          · exact sepH_not hs (by decide) (by decide) (by decide) (by decide) (by decide) d hd
        rw [ht, hn]
        simp [e]
      rw [if_neg c1] at h ⊢
      by_cases c2 : c' = 34
      · rw [if_pos c2] at h ⊢
        obtain ⟨o, ho, e⟩ := Option.map_eq_some_iff.1 h
        simp only [Prod.mk.injEq] at e
        obtain ⟨rfl, rfl, rfl, e⟩ := e
        obtain rfl : o.2 = k := by omega
        have h1 := qt_take r.length r o.1 o.2 (Nat.le_refl _) ho
        have h2 := qt_app (x := r'.drop o.2) h1
        rw [← hp, List.take_append_drop] at h2
        rw [h2]
        simp [e]
      rw [if_neg c2] at h ⊢
      by_cases c3 : ltr c' = true
      · rw [if_pos c3] at h ⊢
        simp only [Option.some.injEq, Prod.mk.injEq] at h
        obtain ⟨rfl, rfl, rfl, e⟩ := h
        obtain rfl : (r.takeWhile prt).length = k := by omega
        have ht : r'.takeWhile prt = r.takeWhile prt := by
          refine tw_cut _ _ hp fun d hd => ?_
          rcases hs with hs | hs
          · exact tw_head r d (by rw [← hs]; exact hd)
          · exact sepH_not hs (by decide) (by decide) (by decide) (by decide) (by decide) d hd
        rw [ht, Nat.add_comm 1, hx]
      rw [if_neg c3] at h ⊢
      by_cases c4 : c' = 39 ∧ (r.head?.map lo) = some true
      · rw [if_pos c4] at h
        simp only [Option.some.injEq, Prod.mk.injEq] at h
        obtain ⟨rfl, rfl, rfl, e⟩ := h
        obtain ⟨rfl, c4⟩ := c4
        cases r with
        | nil => simp at c4
        | cons d t =>
          simp only [List.tail_cons] at e hx ⊢
          obtain ⟨j, rfl⟩ : ∃ j, k = j + 1 := ⟨k - 1, by omega⟩
          cases r' with
          | nil => simp at hp
          | cons d' t' =>
            simp only [List.take_succ_cons, List.cons.injEq] at hp
            obtain ⟨rfl, hp⟩ := hp
            simp only [List.drop_succ_cons] at hs
            obtain rfl : (t.takeWhile tvc).length = j := by omega
            have ht : t'.takeWhile tvc = t.takeWhile tvc := by
              refine tw_cut _ _ hp fun d hd => ?_
              rcases hs with hs | hs
              · exact tw_head t d (by rw [← hs]; exact hd)
              · exact sepH_not hs (by decide) (by decide) (by decide) (by decide) (by decide) d hd
            rw [if_pos ⟨by simp, c4⟩]
            simp only [List.tail_cons]
            rw [ht, show 2 + (t.takeWhile tvc).length = (t.takeWhile tvc).length + 1 + 1 by omega, hx]
      rw [if_neg c4] at h
      obtain ⟨x, hf, e⟩ := Option.map_eq_some_iff.1 h
      simp only [Prod.mk.injEq] at e
      obtain ⟨rfl, rfl, rfl, e⟩ := e
      have hxm : x ∈ lG0 := List.mem_of_find?_eq_some hf
      have hxp : isPre q x = true := List.find?_some hf
      have hxp' : isPre q' x = true := by
        rw [isPre_iff] at hxp ⊢
        rw [hq, e, ] at hxp
        rw [hq', e, hp0]
        exact hxp
      have h39 : c' ≠ 39 := by
        rintro rfl
        have h1 := signs_first x hxm
        rw [isPre_iff, hq, e, List.take_succ_cons] at hxp
        rw [← hxp] at h1
        simp [sgnF] at h1
      rw [if_neg (fun hh => h39 hh.1)]
      rw [find_mono lG0 (fun y hy hyp => ?_) hf hxp']
      · simp [e]
      · rw [isPre_iff] at hyp ⊢
        have h2 := signs_two y hy
        rw [hq'] at hyp
        rw [hq]
        cases hy1 : y.size with
        | zero => rw [hy1] at hyp; rw [← hyp] at h2; simp [sgn2] at h2
        | succ j =>
          rw [hy1] at hyp
          by_cases hj : j ≤ k
          · rw [← hyp]
            have := congrArg (List.take (j + 1)) hp0
            rw [List.take_take, List.take_take, Nat.min_eq_left (by omega)] at this
            exact this.symm
          · rw [← hyp] at h2 ⊢
            simp only [List.take_succ_cons] at h2 ⊢
            obtain ⟨i, rfl⟩ : ∃ i, j = i + 1 := ⟨j - 1, by omega⟩
            cases r' with
            | nil =>
              have hl : (B y).length = y.size := B_length y
              rw [← hyp] at hl; simp at hl; omega
            | cons d t =>
              simp only [List.take_succ_cons] at h2 ⊢
              cases ht : t.take i with
              | cons z zs => rw [ht] at h2; simp [sgn2] at h2
              | nil =>
                rw [ht] at h2
                have hl : (B y).length = y.size := B_length y
                rw [← hyp] at hl
                simp only [List.take_succ_cons, ht] at hl
                simp at hl
                obtain rfl : i = 0 := by omega
                obtain rfl : k = 0 := by omega
                simp only [List.drop_zero, List.head?_cons] at hs
                rcases hs with hs | hs
                · obtain ⟨u, rfl⟩ := head_ex hs.symm
                  simp
                · exact (sgn2_sep h2 hs).elim
end Go.Proofs.YtnihjlnnllngeaaDoor.Lx
