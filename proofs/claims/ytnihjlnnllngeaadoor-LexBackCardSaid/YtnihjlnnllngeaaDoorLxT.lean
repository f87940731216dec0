/- Runs of tokens: a text is cut the same in parts, joined, moved; what that says of a scan. No program here. -/
import Derived.Test.YtnihjlnnllngeaaDoorLxR
namespace Go.Proofs.YtnihjlnnllngeaaDoor.Lx
open Go.RowKit Go.Proofs.YtnihjlnnllngeaaDoorW.PrintWords Go.Proofs.YtnihjlnnllngeaaDoor.PL
set_option linter.unusedVariables false
set_option linter.unusedSimpArgs false
set_option linter.unusedSectionVars false

def Byt (l : List Nat) : Prop := ∀ x ∈ l, x < 256
theorem Byt.drop {l : List Nat} (h : Byt l) (n : Nat) : Byt (l.drop n) := fun x hx => h x (List.mem_of_mem_drop hx)
theorem Byt.take {l : List Nat} (h : Byt l) (n : Nat) : Byt (l.take n) := fun x hx => h x (List.mem_of_mem_take hx)
theorem Byt.app {l x : List Nat} (h : Byt l) (h2 : Byt x) : Byt (l ++ x) := fun y hy => (List.mem_append.1 hy).elim (h y) (h2 y)
theorem byt_B (s : ByteArray) : Byt (B s) := fun _ h => B_lt h
/-- What may stand behind a whole token: nothing, a blank, a comment's begin. -/
def sepL (x : List Nat) : Prop := x = [] ∨ (∃ c r, x = c :: r ∧ ws c = true) ∨ ∃ r, x = 40 :: 42 :: r
theorem sepL.head {x : List Nat} (h : sepL x) : sepH x.head? := by
  rcases h with rfl | ⟨c, r, rfl, hw⟩ | ⟨r, rfl⟩
  · trivial
  · exact .inl hw
  · exact .inr rfl
theorem sepL.not42 {x : List Nat} (h : sepL x) : x.head? ≠ some 42 := by
  rcases h with rfl | ⟨c, r, rfl, hw⟩ | ⟨r, rfl⟩
  · simp
  · rintro e; simp at e; subst e; simp [ws] at hw
  · simp
/-- The tokens of a text that stands at a place. -/
inductive Runs : List Nat → Nat → List S32 → Prop
  | done {l : List Nat} {p : Nat} (h : skip l = (l.length, true)) : Runs l p []
  | tok {l : List Nat} {p n k : Nat} {a v : Int} {b : ByteArray} {ts : List S32} (h : skip l = (n, true)) (hl : lexS (M (l.drop n)) = some (a, b, v, k)) (hk : 0 < k) (hn : n + k ≤ l.length)
      (hr : Runs (l.drop (n + k)) (p + n + k) ts) : Runs l p (⟨a, b, v, ((p + n : Nat) : Int)⟩ :: ts)
/-- Passed by behind blanks. -/
theorem runs_blank {b y : List Nat} {p : Nat} {us : List S32} (h : skip b = (b.length, true)) (h2 : Runs y (p + b.length) us) : Runs (b ++ y) p us := by
  have h0 := skip_pre b.length b (b ++ y) b.length (Nat.le_refl _) h (by simp)
  rw [List.drop_left] at h0
  have d : ∀ j, (b ++ y).drop (b.length + j) = y.drop j := fun j => by rw [← List.drop_drop, List.drop_left]
  cases h2 with
  | done h3 => exact .done (by rw [h0, h3, List.length_append])
  | @tok _ _ n k a v bb ts h3 hl hk hn hr =>
    rw [h3] at h0
    rw [show ((p + b.length + n : Nat) : Int) = ((p + (b.length + n) : Nat) : Int) by omega]
    refine .tok h0 (by rw [d]; exact hl) hk (by rw [List.length_append]; omega) ?_
    rw [Nat.add_assoc b.length, d, show p + (b.length + n) + k = p + b.length + n + k by omega]
    exact hr
/-! What a scan says. -/
def fin (n : Nat) : S32 := ⟨0, ⟨#[]⟩, 0, (n : Int)⟩
theorem rest_M (s : ByteArray) (j : Nat) : s.extract j s.size = M ((B s).drop j) := by
  apply B_inj
  rw [B_rest, B_M ((byt_B s).drop j)]
section
variable {s : ByteArray} (hs : s.size ≤ 140737488351232)
include hs
theorem scanS_run : ∀ (m i : Nat) (out ts : List S32) (_ : i ≤ s.size) (_ : s.size - i < m) (ho : out.length ≤ 1000), Runs ((B s).drop i) i ts →
    scanS s m out i = if h : out.length + ts.length ≤ 1000 then (out ++ ts ++ [fin s.size], 0, 0) else ([], (ts[1000 - out.length]'(by omega)).f3, 3) := by
  intro m
  induction m with
  | zero => intro i out ts _ h; omega
  | succ m ih =>
    intro i out ts hi hm ho hr
    rw [scanS]
    cases hr with
    | done h =>
      rw [List.length_drop, B_length] at h
      rw [h, if_pos rfl, if_pos (by simp only; omega), dif_pos (by simpa using ho)]
      simp [fin]
    | @tok _ _ n k a v b ts h hl hk hn hr =>
      rw [List.length_drop, B_length] at hn
      rw [h, if_pos rfl, if_neg (by simp only; omega)]
      simp only
      rw [rest_M, ← List.drop_drop, hl]
      simp only
      by_cases h1 : 1000 ≤ out.length
      · rw [if_pos h1, dif_neg (by simp; omega)]
        have e : 1000 - out.length = 0 := by omega
        simp only [e, List.getElem_cons_zero]
      · rw [if_neg h1]
        rw [List.drop_drop] at hr
        rw [ih (i + n + k) _ ts (by omega) (by omega) (by simp; omega) (by rw [show i + n + k = i + (n + k) by omega]; rw [← Nat.add_assoc] at hr; rw [← Nat.add_assoc]; exact hr)]
        by_cases h2 : out.length + (ts.length + 1) ≤ 1000
        · rw [dif_pos (by simp; omega), dif_pos (by simpa using h2)]
          simp
        · rw [dif_neg (by simp; omega), dif_neg (by simpa using h2)]
          have e : 1000 - out.length = (1000 - (out.length + 1)) + 1 := by omega
          simp [e]
end
theorem scan_run {s : ByteArray} (h : s.size ≤ 4096) {ts : List S32} (hr : Runs (B s) 0 ts) : scan s = if h : ts.length ≤ 1000 then ((ts ++ [fin s.size], 0, 0) : List S32 × Int × Int) else ([], (ts[1000]'(by omega)).f3, 3) := by
  unfold scan
  rw [if_neg (by omega), scanS_run (by omega) (s.size + 1) 0 [] ts (by omega) (by omega) (by simp) (by simpa using hr)]
  simp
end Go.Proofs.YtnihjlnnllngeaaDoor.Lx
