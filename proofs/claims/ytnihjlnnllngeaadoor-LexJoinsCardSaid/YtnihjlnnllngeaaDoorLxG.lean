/- Words, kinds, signs, a text that is a token: the functions in plain words. -/
import Derived.Test.YtnihjlnnllngeaaDoorLxF
import Derived.Test.YtnihjlnnllngeaaDoorFKind
namespace Go.Proofs.YtnihjlnnllngeaaDoor.Lx
open Go.RowKit Go.Proofs.YtnihjlnnllngeaaDoorW.PrintWords Go.Proofs.YtnihjlnnllngeaaDoor.PL
set_option linter.unusedVariables false
set_option linter.unusedSimpArgs false
set_option linter.unusedSectionVars false

instance decBA : DecidableEq ByteArray := fun a b => decidable_of_iff (a.data = b.data) ⟨fun h => by cases a; cases b; cases h; rfl, fun h => by rw [h]⟩
/-- A text is one of some. -/
def hasB (L : List ByteArray) (s : ByteArray) : Bool := L.any fun x => decide (x = s)
theorem hasB_cons (x : ByteArray) (L : List ByteArray) (s : ByteArray) : hasB (x :: L) s = (decide (x = s) || hasB L s) := rfl
theorem rdOf_get {L : List ByteArray} {i : Nat} (h : i < L.length) : rdOf ByteArray.empty L (i : Int) = L[i] := by
  simp [rdOf, List.getD_eq_getElem?_getD, h]
theorem among_all (s : ByteArray) (L : List ByteArray) (hL : L.length ≤ 140737488351232) : ∀ (m i : Nat), L.length - i ≤ m → Ev (fun k => lex_among.l0 k s L (L.length : Int) (i : Int)) (hasB (L.drop i) s) := by
  intro m
  induction m with
  | zero =>
    intro i hm
    refine Ev.step (f := fun _ => some (hasB (L.drop i) s)) (fun k => ?_) (Ev.now _)
    simp only [lex_among.l0]
    rw [if_neg (by omega), List.drop_eq_nil_iff.2 (by omega)]
    rfl
  | succ m ih =>
    intro i hm
    by_cases hi : i < L.length
    case neg => exact ih i (by omega)
    have step : ∀ k, lex_among.l0 (k + 1) s L (L.length : Int) (i : Int) = if L[i] = s then some true else lex_among.l0 k s L (L.length : Int) ((i + 1 : Nat) : Int) := by
      intro k
      simp only [lex_among.l0]
      rw [if_pos (by omega), if_pos (by omega), if_pos (by omega), rdOf_get hi, w64_1 (Nat.le_of_lt hi) hL]
      by_cases e : L[i] = s
      · rw [if_pos (by rw [e]), if_pos e]
      · rw [if_neg (fun h => e (toList_inj.1 h)), if_neg e]
    rw [List.drop_eq_getElem_cons hi]
    by_cases e : L[i] = s
    · refine Ev.step (f := fun _ => some true) (fun k => by rw [step, if_pos e]) ?_
      rw [hasB_cons, decide_eq_true e, Bool.true_or]
      exact Ev.now _
    · refine Ev.step (fun k => by rw [step, if_neg e]) ?_
      rw [hasB_cons, decide_eq_false e, Bool.false_or]
      exact ih (i + 1) (by omega)
theorem among_f (s : ByteArray) (L : List ByteArray) (hL : L.length ≤ 140737488351232) : Ev (fun k => lex_among.f k L s) (hasB L s) := by
  have := among_all s L hL L.length 0 (by omega)
  rw [List.drop_zero] at this
  exact this
def ltr (c : Nat) : Bool := lo c || hi c
def capS : List Nat → Bool
  | [] => false
  | c :: r => hi c || c :: r == [116, 114, 117, 101] || c :: r == [102, 97, 108, 115, 101] || c :: r == [110, 105, 108]
/-- A word's kind. -/
def wk (s : ByteArray) : Int := if capS (B s) = true then 4 else if hasB lG1 s = true then 6 else 3
theorem lG1_len : lG1.length = 26 := rfl
theorem lG0_len2 : lG0.length = 22 := rfl
theorem eq_lit (s : ByteArray) (l : List UInt8) (m : List Nat) (h : l.map (·.toNat) = m) : (s.toList = l) ↔ B s = m := by
  rw [toList_eq_iff, h]
theorem beq_lit (s : ByteArray) (l : List UInt8) (m : List Nat) (h : l.map (·.toNat) = m) : (s.toList == l) = (B s == m) := by
  rw [Bool.eq_iff_iff, beq_iff_eq, beq_iff_eq]
  exact eq_lit s l m h
theorem wordKind_f {s : ByteArray} (h : 0 < s.size) : Ev (fun k => lex_wordKind.f k s) (wk s) := by
  cases hB : B s with
  | nil => have := B_length s; rw [hB] at this; simp at this; omega
  | cons c r =>
    obtain ⟨hb, hl, hr, hsz, hc256⟩ := cons_at hB
    refine Ev.congr (f := fun k => lex_wordKind.j0 k s (capS (B s))) (fun k => ?_) ?_
    · unfold lex_wordKind.f
      rw [if_pos (by omega), hb, high_f, hB]
      simp only [Option.bind_some, eq_lit s [116, 114, 117, 101] [116, 114, 117, 101] rfl, eq_lit s [102, 97, 108, 115, 101] [102, 97, 108, 115, 101] rfl, beq_lit s [110, 105, 108] [110, 105, 108] rfl, hB]
      rw [capS]
      cases h1 : hi c
      · simp only [Bool.false_eq_true, if_false, Bool.false_or]
        by_cases h2 : c :: r = [116, 114, 117, 101]
        · rw [if_pos h2, beq_iff_eq.2 h2]
          rfl
        · rw [if_neg h2, beq_eq_false_iff_ne.2 h2, Bool.false_or]
          by_cases h3 : c :: r = [102, 97, 108, 115, 101]
          · rw [if_pos h3, beq_iff_eq.2 h3]
            rfl
          · rw [if_neg h3, beq_eq_false_iff_ne.2 h3, Bool.false_or]
      · simp
    · unfold wk
      by_cases hc : capS (B s) = true
      · rw [hc, if_pos rfl]
        exact Ev.step (f := fun _ => some 4) (fun k => by simp only [lex_wordKind.j0]; rw [if_pos trivial]) (Ev.now _)
      · rw [if_neg hc]
        refine Ev.step (f := fun k => (lex_among.f k lG1 s).bind fun t106 => (if t106 = true then (some 6) else (some 3))) (fun k => by simp only [lex_wordKind.j0]; rw [if_neg hc]) ?_
        refine Ev.bind (among_f s lG1 (by rw [lG1_len]; omega)) ?_
        by_cases hm : hasB lG1 s = true
        · rw [if_pos hm, hm]
          exact Ev.now _
        · rw [if_neg hm, show hasB _ s = false from by simpa using hm]
          exact Ev.now _
section
variable {s : ByteArray} (hs : s.size ≤ 140737488351232)
include hs
end
end Go.Proofs.YtnihjlnnllngeaaDoor.Lx
