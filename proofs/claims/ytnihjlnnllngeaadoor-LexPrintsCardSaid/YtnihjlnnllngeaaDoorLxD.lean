/- Numbers, words, type variables: the program's and the reference's functions in plain words. -/
import Derived.Test.YtnihjlnnllngeaaDoorLxA
import Derived.Test.YtnihjlnnllngeaaDoorF0
import Derived.Test.YtnihjlnnllngeaaDoorFBytes
import Derived.Test.YtnihjlnnllngeaaDoorFRWord
import Derived.Test.YtnihjlnnllngeaaDoorFRNum
namespace Go.Proofs.YtnihjlnnllngeaaDoor.Lx
open Go.RowKit Go.Proofs.YtnihjlnnllngeaaDoorW.PrintWords Go.Proofs.YtnihjlnnllngeaaDoor.PL
set_option linter.unusedVariables false
set_option linter.unusedSimpArgs false
set_option linter.unusedSectionVars false

def rng (a b c : Nat) : Bool := decide (a ≤ c ∧ c ≤ b)
def dig (c : Nat) : Bool := rng 48 57 c
def lo (c : Nat) : Bool := rng 97 122 c
def hi (c : Nat) : Bool := rng 65 90 c
def prt (c : Nat) : Bool := lo c || hi c || dig c || c == 95 || c == 39
theorem between_f (c a b : Nat) : kindlingref07_between.f (c : Int) (a : Int) (b : Int) = some (rng a b c) := by
  unfold kindlingref07_between.f rng
  by_cases h : (c : Int) ≥ (a : Int)
  · rw [if_pos h]
    congr 1
    rw [Bool.eq_iff_iff]
    simp
    omega
  · rw [if_neg h]
    congr 1
    rw [Bool.eq_iff_iff]
    simp
    omega
theorem digit_f (c : Nat) : lex_digit.f (c : Int) = some (dig c) := by
  have := between_f c 48 57
  exact this
theorem low_f (c : Nat) : lex_low.f (c : Int) = some (lo c) := by
  have := between_f c 97 122
  exact this
theorem high_f (c : Nat) : lex_high.f (c : Int) = some (hi c) := by
  have := between_f c 65 90
  exact this
theorem inWord_f (c : Nat) : lex_inWord.f (c : Int) = some (prt c) := by
  unfold lex_inWord.f prt
  rw [low_f, high_f, digit_f]
  simp only [Option.bind_some]
  cases lo c <;> cases hi c <;> cases dig c <;> simp
  by_cases h : c = 95
  · simp [h]
  · rw [if_neg (by omega)]
    congr 1
    rw [Bool.eq_iff_iff]
    simp [h]
    omega
theorem part_f (c : Nat) : kindlingref07_part.f (c : Int) = some (prt c) := by
  unfold kindlingref07_part.f prt
  have h1 : kindlingref07_between.f (c : Int) 97 122 = some (lo c) := between_f c 97 122
  have h2 : kindlingref07_between.f (c : Int) 65 90 = some (hi c) := between_f c 65 90
  have h3 : kindlingref07_between.f (c : Int) 48 57 = some (dig c) := between_f c 48 57
  rw [h1, h2, h3]
  simp only [Option.bind_some]
  cases lo c <;> cases hi c <;> cases dig c <;> simp
  by_cases h : c = 95
  · simp [h]
  · rw [if_neg (by omega)]
    congr 1
    rw [Bool.eq_iff_iff]
    simp [h]
    omega
theorem dig_iff {c : Nat} : dig c = true ↔ 48 ≤ c ∧ c ≤ 57 := by simp [dig, rng]

/-- What digits say. -/
def numS : Nat → List Nat → Option Nat
  | n, [] => some n
  | n, c :: r => if dig c = true ∧ n ≤ (4611686018427387903 - (c - 48)) / 10 then numS (n * 10 + (c - 48)) r else none
section
variable {s : ByteArray} (hs : s.size ≤ 140737488351232)
include hs
def numT (s : ByteArray) (n i : Nat) : Int × Bool := match numS n ((B s).drop i) with
  | none => (0, false)
  | some v => ((v : Int), s.toList != [])
theorem refNumber_all : ∀ (m i n : Nat), s.size - i ≤ m → n ≤ 4611686018427387903 → Ev (fun k => kindlingref07_Number.l0 k s (n : Int) (i : Int)) (numT s n i) := by
  intro m
  induction m with
  | zero =>
    intro i n hm hn
    have hd : (B s).drop i = [] := List.drop_eq_nil_iff.2 (by rw [B_length]; omega)
    refine Ev.step (f := fun _ => some (numT s n i)) (fun k => ?_) (Ev.now _)
    simp only [kindlingref07_Number.l0]
    rw [if_neg (by omega)]
    simp [numT, hd, numS]
  | succ m ih =>
    intro i n hm hn
    by_cases hi : i < s.size
    case neg => exact ih i n (by omega) hn
    obtain ⟨c, r, h⟩ := drop_ex s hi
    obtain ⟨hb, hl, hr⟩ := bt_drop h
    have hbt : kindlingref07_between.f (c : Int) 48 57 = some (dig c) := between_f c 48 57
    by_cases hc : dig c = true
    · have hc2 := dig_iff.1 hc
      refine Ev.step (f := fun k => kindlingref07_Number.j1 k s (n : Int) (i : Int) (decide ((n : Int) > ((4611686018427387903 - (((c : Int) - 48) % 256)) / 10)))) (fun k => ?_) ?_
      · simp only [kindlingref07_Number.l0]
        rw [if_pos (by omega), if_pos (by omega), hb, hbt]
        simp only [Option.bind_some]
        rw [if_pos hc]
      by_cases ho : n ≤ (4611686018427387903 - (c - 48)) / 10
      · refine Ev.step (f := fun k => kindlingref07_Number.l0 k s ((n * 10 + (c - 48) : Nat) : Int) ((i + 1 : Nat) : Int)) (fun k => ?_) ?_
        · simp only [kindlingref07_Number.j1]
          rw [if_neg (by simp; omega), if_pos (by omega), if_pos (by omega), hb, w64_1 (Nat.le_of_lt hl) hs, w64 (x := (n : Int) * 10) (by omega) (by omega), w64 (by omega) (by omega)]
          congr 1
          omega
        · have g := ih (i + 1) (n * 10 + (c - 48)) (by omega) (by omega)
          have e : numT s n i = numT s (n * 10 + (c - 48)) (i + 1) := by
            unfold numT
            rw [h, hr, numS, if_pos ⟨hc, ho⟩]
          rw [e]
          exact g
      · refine Ev.step (f := fun _ => some (numT s n i)) (fun k => ?_) (Ev.now _)
        simp only [kindlingref07_Number.j1]
        rw [if_pos (by simp; omega)]
        unfold numT
        rw [h, numS, if_neg (fun e => ho e.2)]
    · refine Ev.step (f := fun k => kindlingref07_Number.j1 k s (n : Int) (i : Int) true) (fun k => ?_) (Ev.step (f := fun _ => some (numT s n i)) (fun k => ?_) (Ev.now _))
      · simp only [kindlingref07_Number.l0]
        rw [if_pos (by omega), if_pos (by omega), hb, hbt]
        simp only [Option.bind_some]
        rw [if_neg hc]
      · simp only [kindlingref07_Number.j1]
        rw [if_pos trivial]
        unfold numT
        rw [h, numS, if_neg (fun e => hc e.1)]
theorem refNumber_f : Ev (fun k => kindlingref07_Number.f k s) (numT s 0 0) := refNumber_all hs s.size 0 0 (by omega) (by omega)
end
end Go.Proofs.YtnihjlnnllngeaaDoor.Lx
