/- Runs of tokens: a text is cut the same in parts, joined, moved; what that says of a scan. No program here. -/
import Derived.Test.YtnihjlnnllngeaaDoorLxR
namespace Go.Proofs.YtnihjlnnllngeaaDoor.Lx
open Go.RowKit Go.Proofs.YtnihjlnnllngeaaDoorW.PrintWords Go.Proofs.YtnihjlnnllngeaaDoor.PL
set_option linter.unusedVariables false
set_option linter.unusedSimpArgs false
set_option linter.unusedSectionVars false

def Byt (l : List Nat) : Prop := ∀ x ∈ l, x < 256
theorem Byt.drop {l : List Nat} (h : Byt l) (n : Nat) : Byt (l.drop n) := fun x hx => h x (List.mem_of_mem_drop hx)
theorem Byt.take {l : List Nat} (h : Byt l) (n : Nat) : Byt (l.take n) := fun x hx => h x (List.mem_of_mem_take hx)
theorem Byt.app {l x : List Nat} (h : Byt l) (h2 : Byt x) : Byt (l ++ x) := fun y hy => (List.mem_append.1 hy).elim (h y) (h2 y)
theorem byt_B (s : ByteArray) : Byt (B s) := fun _ h => B_lt h
/-- What may stand behind a whole token: nothing, a blank, a comment's begin. -/
def sepL (x : List Nat) : Prop := x = [] ∨ (∃ c r, x = c :: r ∧ ws c = true) ∨ ∃ r, x = 40 :: 42 :: r
theorem sepL.head {x : List Nat} (h : sepL x) : sepH x.head? := by
  rcases h with rfl | ⟨c, r, rfl, hw⟩ | ⟨r, rfl⟩
  · trivial
  · exact .inl hw
  · exact .inr rfl
theorem sepL.not42 {x : List Nat} (h : sepL x) : x.head? ≠ some 42 := by
  rcases h with rfl | ⟨c, r, rfl, hw⟩ | ⟨r, rfl⟩
  · simp
  · rintro e; simp at e; subst e; simp [ws] at hw
  · simp
/-- The tokens of a text that stands at a place. -/
inductive Runs : List Nat → Nat → List S32 → Prop
  | done {l : List Nat} {p : Nat} (h : skip l = (l.length, true)) : Runs l p []
  | tok {l : List Nat} {p n k : Nat} {a v : Int} {b : ByteArray} {ts : List S32} (h : skip l = (n, true)) (hl : lexS (M (l.drop n)) = some (a, b, v, k)) (hk : 0 < k) (hn : n + k ≤ l.length)
      (hr : Runs (l.drop (n + k)) (p + n + k) ts) : Runs l p (⟨a, b, v, ((p + n : Nat) : Int)⟩ :: ts)
/-- The first token is the same where its bytes are and nothing that goes on with it stands behind. -/
theorem tok_cut {l l' : List Nat} {n k : Nat} {a v : Int} {b : ByteArray} (hb : Byt l) (hb' : Byt l') (h : skip l = (n, true)) (hl : lexS (M (l.drop n)) = some (a, b, v, k)) (hk : 0 < k) (hn : n + k ≤ l.length)
    (ht : l'.take (n + k) = l.take (n + k)) (hs : (l'.drop (n + k)).head? = (l.drop (n + k)).head? ∨ sepL (l'.drop (n + k))) :
    skip l' = (n, true) ∧ lexS (M (l'.drop n)) = some (a, b, v, k) := by
  have hd : (l'.drop n).take k = (l.drop n).take k := by
    have := congrArg (List.drop n) ht
    rwa [List.drop_take, List.drop_take, Nat.add_sub_cancel_left] at this
  have h1 : (M (l'.drop n) |> B) = l'.drop n := B_M (hb'.drop n)
  have h2 : (M (l.drop n) |> B) = l.drop n := B_M (hb.drop n)
  constructor
  · have ht2 : l'.take n = l.take n := by
      have := congrArg (List.take n) ht
      rwa [List.take_take, List.take_take, Nat.min_eq_left (by omega)] at this
    have h0 := skip_pre l.length l l' n (Nat.le_refl _) h ht2
    have hz := skip_rest h
    have hz' : skip (l'.drop n) = (0, true) := by
      cases hx : l.drop n with
      | nil => have := congrArg List.length hx; rw [List.length_drop] at this; simp at this; omega
      | cons c r =>
        rw [hx] at hz hd
        obtain ⟨z1, z2⟩ := skip_head hz
        obtain ⟨j, rfl⟩ : ∃ j, k = j + 1 := ⟨k - 1, by omega⟩
        cases hx' : l'.drop n with
        | nil => rw [hx'] at hd; simp at hd
        | cons c' r' =>
          rw [hx'] at hd
          simp at hd
          obtain ⟨rfl, hd⟩ := hd
          refine skip_else z1 fun hh => ?_
          obtain ⟨rfl, hh⟩ := hh
          cases j with
          | succ j =>
            apply z2
            refine ⟨rfl, ?_⟩
            obtain ⟨t, rfl⟩ := head_ex hh
            cases r with
            | nil => simp at hd
            | cons y r => simp at hd; rw [hd.1]; rfl
          | zero =>
            have e1 : l'.drop (n + (0 + 1)) = r' := by rw [← List.drop_drop, hx']; rfl
            have e2 : l.drop (n + (0 + 1)) = r := by rw [← List.drop_drop, hx]; rfl
            rw [e1, e2] at hs
            rcases hs with hs | hs
            · exact z2 ⟨rfl, by rw [← hs]; exact hh⟩
            · exact hs.not42 hh
    rw [h0, hz']
    simp
  · refine lexS_cut hl hk (by rw [h1, h2]; exact hd) ?_
    rw [h1, h2, List.drop_drop, List.drop_drop]
    rcases hs with hs | hs
    · exact .inl hs
    · exact .inr hs.head
theorem runs_shift {l : List Nat} {p : Nat} {ts : List S32} (h : Runs l p ts) (d : Nat) : Runs l (p + d) (ts.map fun t => { t with f3 := t.f3 + d }) := by
  induction h with
  | done h => exact .done h
  | @tok l p n k a v b ts h hl hk hn hr ih =>
    rw [List.map_cons]
    have e : (p + n + k) + d = (p + d) + n + k := by omega
    rw [e] at ih
    have := Runs.tok (p := p + d) h hl hk hn ih
    rwa [show ((p + d + n : Nat) : Int) = ((p + n : Nat) : Int) + d by omega] at this
theorem runs_join {l x : List Nat} {p : Nat} {ts us : List S32} (hb : Byt l) (hx : Byt x) (hs : sepL x) (h : Runs l p ts) (h2 : Runs x (p + l.length) us) : Runs (l ++ x) p (ts ++ us) := by
  induction h with
  | @done l p h =>
    have h0 := skip_pre l.length l (l ++ x) l.length (Nat.le_refl _) h (by simp)
    rw [List.drop_left] at h0
    cases h2 with
    | done h3 => exact .done (by rw [h0, h3, List.length_append])
    | @tok _ _ n k a v b ts h3 hl hk hn hr =>
      rw [h3] at h0
      have e : ((p + l.length + n : Nat) : Int) = ((p + (l.length + n) : Nat) : Int) := by omega
      rw [List.nil_append, e]
      have d : ∀ j, (l ++ x).drop (l.length + j) = x.drop j := fun j => by rw [← List.drop_drop, List.drop_left]
      refine .tok h0 (by rw [d]; exact hl) hk (by rw [List.length_append]; omega) ?_
      rw [Nat.add_assoc l.length, d, show p + (l.length + n) + k = p + l.length + n + k by omega]
      exact hr
  | @tok l p n k a v b ts h hl hk hn hr ih =>
    have hd : (l ++ x).drop (n + k) = l.drop (n + k) ++ x := List.drop_append_of_le_length hn
    have := tok_cut hb (hb.app hx) h hl hk hn (List.take_append_of_le_length hn) (by
      rw [hd]
      cases hq : l.drop (n + k) with
      | nil => exact .inr (by simpa using hs)
      | cons y r => exact .inl rfl)
    refine .tok this.1 this.2 hk (by rw [List.length_append]; omega) ?_
    rw [hd]
    refine ih (hb.drop _) ?_
    rw [List.length_drop, show p + n + k + (l.length - (n + k)) = p + l.length by omega]
    exact h2
theorem runs_len {l : List Nat} {p : Nat} {ts : List S32} (h : Runs l p ts) : ts.length ≤ l.length := by
  induction h with
  | done h => simp
  | @tok l p n k a v b ts h hl hk hn hr ih =>
    rw [List.length_drop] at ih
    simp; omega
/-- Passed by behind blanks. -/
theorem runs_blank {b y : List Nat} {p : Nat} {us : List S32} (h : skip b = (b.length, true)) (h2 : Runs y (p + b.length) us) : Runs (b ++ y) p us := by
  have h0 := skip_pre b.length b (b ++ y) b.length (Nat.le_refl _) h (by simp)
  rw [List.drop_left] at h0
  have d : ∀ j, (b ++ y).drop (b.length + j) = y.drop j := fun j => by rw [← List.drop_drop, List.drop_left]
  cases h2 with
  | done h3 => exact .done (by rw [h0, h3, List.length_append])
  | @tok _ _ n k a v bb ts h3 hl hk hn hr =>
    rw [h3] at h0
    rw [show ((p + b.length + n : Nat) : Int) = ((p + (b.length + n) : Nat) : Int) by omega]
    refine .tok h0 (by rw [d]; exact hl) hk (by rw [List.length_append]; omega) ?_
    rw [Nat.add_assoc b.length, d, show p + (b.length + n) + k = p + b.length + n + k by omega]
    exact hr
/-! What a scan says. -/
def fin (n : Nat) : S32 := ⟨0, ⟨#[]⟩, 0, (n : Int)⟩
theorem rest_M (s : ByteArray) (j : Nat) : s.extract j s.size = M ((B s).drop j) := by
  apply B_inj
  rw [B_rest, B_M ((byt_B s).drop j)]
section
variable {s : ByteArray} (hs : s.size ≤ 140737488351232)
include hs
theorem scanS_run : ∀ (m i : Nat) (out ts : List S32) (_ : i ≤ s.size) (_ : s.size - i < m) (ho : out.length ≤ 1000), Runs ((B s).drop i) i ts →
    scanS s m out i = if h : out.length + ts.length ≤ 1000 then (out ++ ts ++ [fin s.size], 0, 0) else ([], (ts[1000 - out.length]'(by omega)).f3, 3) := by
  intro m
  induction m with
  | zero => intro i out ts _ h; omega
  | succ m ih =>
    intro i out ts hi hm ho hr
    rw [scanS]
    cases hr with
    | done h =>
      rw [List.length_drop, B_length] at h
      rw [h, if_pos rfl, if_pos (by simp only; omega), dif_pos (by simpa using ho)]
      simp [fin]
    | @tok _ _ n k a v b ts h hl hk hn hr =>
      rw [List.length_drop, B_length] at hn
      rw [h, if_pos rfl, if_neg (by simp only; omega)]
      simp only
      rw [rest_M, ← List.drop_drop, hl]
      simp only
      by_cases h1 : 1000 ≤ out.length
      · rw [if_pos h1, dif_neg (by simp; omega)]
        have e : 1000 - out.length = 0 := by omega
        simp only [e, List.getElem_cons_zero]
      · rw [if_neg h1]
        rw [List.drop_drop] at hr
        rw [ih (i + n + k) _ ts (by omega) (by omega) (by simp; omega) (by rw [show i + n + k = i + (n + k) by omega]; rw [← Nat.add_assoc] at hr; rw [← Nat.add_assoc]; exact hr)]
        by_cases h2 : out.length + (ts.length + 1) ≤ 1000
        · rw [dif_pos (by simp; omega), dif_pos (by simpa using h2)]
          simp
        · rw [dif_neg (by simp; omega), dif_neg (by simpa using h2)]
          have e : 1000 - out.length = (1000 - (out.length + 1)) + 1 := by omega
          simp [e]
theorem scanS_ok : ∀ (m i : Nat) (out : List S32), i ≤ s.size → s.size - i < m → (scanS s m out i).2.2 = 0 → ∃ ts, Runs ((B s).drop i) i ts := by
  intro m
  induction m with
  | zero => intro i out _ h; omega
  | succ m ih =>
    intro i out hi hm h
    rw [scanS] at h
    have hb := skip_in hs hi
    generalize hsk : skip ((B s).drop i) = sk at h hb
    obtain ⟨n, ok⟩ := sk
    simp only at h hb
    by_cases h1 : ok = true
    case neg => rw [if_neg h1] at h; simp at h
    rw [if_pos h1] at h
    subst h1
    by_cases h2 : s.size ≤ i + n
    · refine ⟨[], .done (hsk.trans ?_)⟩
      rw [List.length_drop, B_length]
      rw [show s.size - i = n by omega]
    rw [if_neg h2] at h
    cases hl : lexS (s.extract (i + n) s.size) with
    | none => rw [hl] at h; simp at h
    | some q =>
      obtain ⟨a, b, v, k⟩ := q
      rw [hl] at h
      simp only at h
      by_cases h3 : 1000 ≤ out.length
      · rw [if_pos h3] at h; simp at h
      rw [if_neg h3] at h
      obtain ⟨hk, hn⟩ := lexS_le hs (by omega) hl
      obtain ⟨ts, ht⟩ := ih (i + n + k) _ hn (by omega) h
      refine ⟨_, .tok (a := a) (b := b) (v := v) hsk ?_ hk (by rw [List.length_drop, B_length]; omega) (ts := ts) ?_⟩
      · rw [← hl, rest_M, List.drop_drop]
      · rw [List.drop_drop, ← Nat.add_assoc]; exact ht
theorem scanS_bad : ∀ (m i : Nat) (out : List S32), (scanS s m out i).2.2 ≠ 0 → (scanS s m out i).1 = [] := by
  intro m
  induction m with
  | zero => intro i out h; rfl
  | succ m ih =>
    intro i out h
    rw [scanS] at h ⊢
    split
    · rename_i h1
      rw [if_pos h1] at h
      split
      · rename_i h2
        rw [if_pos h2] at h
        simp at h
      · rename_i h2
        rw [if_neg h2] at h
        split
        · rfl
        · rename_i h3
          rw [h3] at h
          simp only at h
          split
          · rfl
          · rename_i h4
            rw [if_neg h4] at h
            exact ih _ _ h
    · rfl
end
theorem scan_run {s : ByteArray} (h : s.size ≤ 4096) {ts : List S32} (hr : Runs (B s) 0 ts) : scan s = if h : ts.length ≤ 1000 then ((ts ++ [fin s.size], 0, 0) : List S32 × Int × Int) else ([], (ts[1000]'(by omega)).f3, 3) := by
  unfold scan
  rw [if_neg (by omega), scanS_run (by omega) (s.size + 1) 0 [] ts (by omega) (by omega) (by simp) (by simpa using hr)]
  simp
theorem scan_ok {s : ByteArray} (h : (scan s).2.2 = 0) : s.size ≤ 4096 ∧ ∃ ts, Runs (B s) 0 ts ∧ ts.length ≤ 1000 ∧ scan s = (ts ++ [fin s.size], 0, 0) := by
  by_cases h1 : 4096 < s.size
  · unfold scan at h; rw [if_pos h1] at h; simp at h
  refine ⟨by omega, ?_⟩
  have h2 := h
  unfold scan at h2
  rw [if_neg h1] at h2
  obtain ⟨ts, ht⟩ := scanS_ok (by omega) (s.size + 1) 0 [] (by omega) (by omega) h2
  rw [List.drop_zero] at ht
  have e := scan_run (by omega) ht
  by_cases h3 : ts.length ≤ 1000
  · rw [dif_pos h3] at e
    exact ⟨ts, ht, h3, e⟩
  · rw [dif_neg h3] at e
    rw [e] at h; simp at h
theorem scan_bad {s : ByteArray} (h : (scan s).2.2 ≠ 0) : (scan s).1 = [] := by
  unfold scan at h ⊢
  by_cases h1 : 4096 < s.size
  · rw [if_pos h1]
  · rw [if_neg h1] at h ⊢
    exact scanS_bad (by omega) _ _ _ h
end Go.Proofs.YtnihjlnnllngeaaDoor.Lx
