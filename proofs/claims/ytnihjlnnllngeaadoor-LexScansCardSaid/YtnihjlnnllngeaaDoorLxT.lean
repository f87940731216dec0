/- Runs of tokens: a text is cut the same in parts, joined, moved; what that says of a scan. No program here. -/
import Derived.Test.YtnihjlnnllngeaaDoorLxJ
namespace Go.Proofs.YtnihjlnnllngeaaDoor.Lx
open Go.RowKit Go.Proofs.YtnihjlnnllngeaaDoorW.PrintWords Go.Proofs.YtnihjlnnllngeaaDoor.PL
set_option linter.unusedVariables false
set_option linter.unusedSimpArgs false
set_option linter.unusedSectionVars false

def Byt (l : List Nat) : Prop := ∀ x ∈ l, x < 256
theorem Byt.drop {l : List Nat} (h : Byt l) (n : Nat) : Byt (l.drop n) := fun x hx => h x (List.mem_of_mem_drop hx)
theorem Byt.take {l : List Nat} (h : Byt l) (n : Nat) : Byt (l.take n) := fun x hx => h x (List.mem_of_mem_take hx)
theorem byt_B (s : ByteArray) : Byt (B s) := fun _ h => B_lt h
/-- The tokens of a text that stands at a place. -/
inductive Runs : List Nat → Nat → List S32 → Prop
  | done {l : List Nat} {p : Nat} (h : skip l = (l.length, true)) : Runs l p []
  | tok {l : List Nat} {p n k : Nat} {a v : Int} {b : ByteArray} {ts : List S32} (h : skip l = (n, true)) (hl : lexS (M (l.drop n)) = some (a, b, v, k)) (hk : 0 < k) (hn : n + k ≤ l.length)
      (hr : Runs (l.drop (n + k)) (p + n + k) ts) : Runs l p (⟨a, b, v, ((p + n : Nat) : Int)⟩ :: ts)
/-! What a scan says. -/
def fin (n : Nat) : S32 := ⟨0, ⟨#[]⟩, 0, (n : Int)⟩
theorem rest_M (s : ByteArray) (j : Nat) : s.extract j s.size = M ((B s).drop j) := by
  apply B_inj
  rw [B_rest, B_M ((byt_B s).drop j)]
section
variable {s : ByteArray} (hs : s.size ≤ 140737488351232)
include hs
theorem scanS_run : ∀ (m i : Nat) (out ts : List S32) (_ : i ≤ s.size) (_ : s.size - i < m) (ho : out.length ≤ 1000), Runs ((B s).drop i) i ts →
    scanS s m out i = if h : out.length + ts.length ≤ 1000 then (out ++ ts ++ [fin s.size], 0, 0) else ([], (ts[1000 - out.length]'(by omega)).f3, 3) := by
  intro m
  induction m with
  | zero => intro i out ts _ h; omega
  | succ m ih =>
    intro i out ts hi hm ho hr
    rw [scanS]
    cases hr with
    | done h =>
      rw [List.length_drop, B_length] at h
      rw [h, if_pos rfl, if_pos (by simp only; omega), dif_pos (by simpa using ho)]
      simp [fin]
    | @tok _ _ n k a v b ts h hl hk hn hr =>
      rw [List.length_drop, B_length] at hn
      rw [h, if_pos rfl, if_neg (by simp only; omega)]
      simp only
      rw [rest_M, ← List.drop_drop, hl]
      simp only
      by_cases h1 : 1000 ≤ out.length
      · rw [if_pos h1, dif_neg (by simp; omega)]
        have e : 1000 - out.length = 0 := by omega
        simp only [e, List.getElem_cons_zero]
      · rw [if_neg h1]
        rw [List.drop_drop] at hr
        rw [ih (i + n + k) _ ts (by omega) (by omega) (by simp; omega) (by rw [show i + n + k = i + (n + k) by omega]; rw [← Nat.add_assoc] at hr; rw [← Nat.add_assoc]; exact hr)]
        by_cases h2 : out.length + (ts.length + 1) ≤ 1000
        · rw [dif_pos (by simp; omega), dif_pos (by simpa using h2)]
          simp
        · rw [dif_neg (by simp; omega), dif_neg (by simpa using h2)]
          have e : 1000 - out.length = (1000 - (out.length + 1)) + 1 := by omega
          simp [e]
theorem scanS_ok : ∀ (m i : Nat) (out : List S32), i ≤ s.size → s.size - i < m → (scanS s m out i).2.2 = 0 → ∃ ts, Runs ((B s).drop i) i ts := by
  intro m
  induction m with
  | zero => intro i out _ h; omega
  | succ m ih =>
    intro i out hi hm h
    rw [scanS] at h
    have hb := skip_in hs hi
    generalize hsk : skip ((B s).drop i) = sk at h hb
    obtain ⟨n, ok⟩ := sk
    simp only at h hb
    by_cases h1 : ok = true
    case neg => rw [if_neg h1] at h; simp at h
    rw [if_pos h1] at h
    subst h1
    by_cases h2 : s.size ≤ i + n
    · refine ⟨[], .done (hsk.trans ?_)⟩
      rw [List.length_drop, B_length]
      rw [show s.size - i = n by omega]
    rw [if_neg h2] at h
    cases hl : lexS (s.extract (i + n) s.size) with
    | none => rw [hl] at h; simp at h
    | some q =>
      obtain ⟨a, b, v, k⟩ := q
      rw [hl] at h
      simp only at h
      by_cases h3 : 1000 ≤ out.length
      · rw [if_pos h3] at h; simp at h
      rw [if_neg h3] at h
      obtain ⟨hk, hn⟩ := lexS_le hs (by omega) hl
      obtain ⟨ts, ht⟩ := ih (i + n + k) _ hn (by omega) h
      refine ⟨_, .tok (a := a) (b := b) (v := v) hsk ?_ hk (by rw [List.length_drop, B_length]; omega) (ts := ts) ?_⟩
      · rw [← hl, rest_M, List.drop_drop]
      · rw [List.drop_drop, ← Nat.add_assoc]; exact ht
theorem scanS_bad : ∀ (m i : Nat) (out : List S32), (scanS s m out i).2.2 ≠ 0 → (scanS s m out i).1 = [] := by
  intro m
  induction m with
  | zero => intro i out h; rfl
  | succ m ih =>
    intro i out h
    rw [scanS] at h ⊢
    split
    · rename_i h1
      rw [if_pos h1] at h
      split
      · rename_i h2
        rw [if_pos h2] at h
        simp at h
      · rename_i h2
        rw [if_neg h2] at h
        split
        · rfl
        · rename_i h3
          rw [h3] at h
          simp only at h
          split
          · rfl
          · rename_i h4
            rw [if_neg h4] at h
            exact ih _ _ h
    · rfl
end
theorem scan_run {s : ByteArray} (h : s.size ≤ 4096) {ts : List S32} (hr : Runs (B s) 0 ts) : scan s = if h : ts.length ≤ 1000 then ((ts ++ [fin s.size], 0, 0) : List S32 × Int × Int) else ([], (ts[1000]'(by omega)).f3, 3) := by
  unfold scan
  rw [if_neg (by omega), scanS_run (by omega) (s.size + 1) 0 [] ts (by omega) (by omega) (by simp) (by simpa using hr)]
  simp
theorem scan_ok {s : ByteArray} (h : (scan s).2.2 = 0) : s.size ≤ 4096 ∧ ∃ ts, Runs (B s) 0 ts ∧ ts.length ≤ 1000 ∧ scan s = (ts ++ [fin s.size], 0, 0) := by
  by_cases h1 : 4096 < s.size
  · unfold scan at h; rw [if_pos h1] at h; simp at h
  refine ⟨by omega, ?_⟩
  have h2 := h
  unfold scan at h2
  rw [if_neg h1] at h2
  obtain ⟨ts, ht⟩ := scanS_ok (by omega) (s.size + 1) 0 [] (by omega) (by omega) h2
  rw [List.drop_zero] at ht
  have e := scan_run (by omega) ht
  by_cases h3 : ts.length ≤ 1000
  · rw [dif_pos h3] at e
    exact ⟨ts, ht, h3, e⟩
  · rw [dif_neg h3] at e
    rw [e] at h; simp at h
theorem scan_bad {s : ByteArray} (h : (scan s).2.2 ≠ 0) : (scan s).1 = [] := by
  unfold scan at h ⊢
  by_cases h1 : 4096 < s.size
  · rw [if_pos h1]
  · rw [if_neg h1] at h ⊢
    exact scanS_bad (by omega) _ _ _ h
end Go.Proofs.YtnihjlnnllngeaaDoor.Lx
