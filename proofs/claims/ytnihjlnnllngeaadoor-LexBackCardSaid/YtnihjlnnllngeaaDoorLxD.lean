/- Numbers, words, type variables: the program's and the reference's functions in plain words. -/
import Derived.Test.YtnihjlnnllngeaaDoorLxA
import Derived.Test.YtnihjlnnllngeaaDoorF0
import Derived.Test.YtnihjlnnllngeaaDoorFBytes
import Derived.Test.YtnihjlnnllngeaaDoorFText
import Derived.Test.YtnihjlnnllngeaaDoorFWord
import Derived.Test.YtnihjlnnllngeaaDoorFRWord
import Derived.Test.YtnihjlnnllngeaaDoorFRNum
namespace Go.Proofs.YtnihjlnnllngeaaDoor.Lx
open Go.RowKit Go.Proofs.YtnihjlnnllngeaaDoorW.PrintWords Go.Proofs.YtnihjlnnllngeaaDoor.PL
set_option linter.unusedVariables false
set_option linter.unusedSimpArgs false
set_option linter.unusedSectionVars false

def rng (a b c : Nat) : Bool := decide (a ≤ c ∧ c ≤ b)
def dig (c : Nat) : Bool := rng 48 57 c
def lo (c : Nat) : Bool := rng 97 122 c
def hi (c : Nat) : Bool := rng 65 90 c
def prt (c : Nat) : Bool := lo c || hi c || dig c || c == 95 || c == 39
theorem between_f (c a b : Nat) : kindlingref07_between.f (c : Int) (a : Int) (b : Int) = some (rng a b c) := by
  unfold kindlingref07_between.f rng
  by_cases h : (c : Int) ≥ (a : Int)
  · rw [if_pos h]
    congr 1
    rw [Bool.eq_iff_iff]
    simp
    omega
  · rw [if_neg h]
    congr 1
    rw [Bool.eq_iff_iff]
    simp
    omega
theorem digit_f (c : Nat) : lex_digit.f (c : Int) = some (dig c) := by
  have := between_f c 48 57
  exact this
theorem low_f (c : Nat) : lex_low.f (c : Int) = some (lo c) := by
  have := between_f c 97 122
  exact this
theorem high_f (c : Nat) : lex_high.f (c : Int) = some (hi c) := by
  have := between_f c 65 90
  exact this
theorem inWord_f (c : Nat) : lex_inWord.f (c : Int) = some (prt c) := by
  unfold lex_inWord.f prt
  rw [low_f, high_f, digit_f]
  simp only [Option.bind_some]
  cases lo c <;> cases hi c <;> cases dig c <;> simp
  by_cases h : c = 95
  · simp [h]
  · rw [if_neg (by omega)]
    congr 1
    rw [Bool.eq_iff_iff]
    simp [h]
    omega
theorem part_f (c : Nat) : kindlingref07_part.f (c : Int) = some (prt c) := by
  unfold kindlingref07_part.f prt
  have h1 : kindlingref07_between.f (c : Int) 97 122 = some (lo c) := between_f c 97 122
  have h2 : kindlingref07_between.f (c : Int) 65 90 = some (hi c) := between_f c 65 90
  have h3 : kindlingref07_between.f (c : Int) 48 57 = some (dig c) := between_f c 48 57
  rw [h1, h2, h3]
  simp only [Option.bind_some]
  cases lo c <;> cases hi c <;> cases dig c <;> simp
  by_cases h : c = 95
  · simp [h]
  · rw [if_neg (by omega)]
    congr 1
    rw [Bool.eq_iff_iff]
    simp [h]
    omega
theorem dig_iff {c : Nat} : dig c = true ↔ 48 ≤ c ∧ c ≤ 57 := by simp [dig, rng]

/-- What digits say. -/
def numS : Nat → List Nat → Option Nat
  | n, [] => some n
  | n, c :: r => if dig c = true ∧ n ≤ (4611686018427387903 - (c - 48)) / 10 then numS (n * 10 + (c - 48)) r else none
def numR (s : ByteArray) (n i : Nat) : Int × Int := match numS n (((B s).drop i).takeWhile dig) with
  | none => (0, 0)
  | some v => ((v : Int), ((i + (((B s).drop i).takeWhile dig).length : Nat) : Int))
section
variable {s : ByteArray} (hs : s.size ≤ 140737488351232)
include hs
theorem number_all : ∀ (m i n : Nat), s.size - i ≤ m → n ≤ 4611686018427387903 → Ev (fun k => lex_number.l0 k s (n : Int) (i : Int)) (numR s n i) := by
  intro m
  induction m with
  | zero =>
    intro i n hm hn
    have hd : (B s).drop i = [] := List.drop_eq_nil_iff.2 (by rw [B_length]; omega)
    refine Ev.step (f := fun k => lex_number.j1 k s (n : Int) (i : Int) false) (fun k => ?_) (Ev.step (f := fun _ => some (numR s n i)) (fun k => ?_) (Ev.now _))
    · simp only [lex_number.l0]
      rw [if_neg (by omega)]
    · simp only [lex_number.j1]
      rw [if_neg (by simp)]
      simp [numR, hd, numS]
  | succ m ih =>
    intro i n hm hn
    by_cases hi : i < s.size
    case neg => exact ih i n (by omega) hn
    obtain ⟨c, r, h⟩ := drop_ex s hi
    obtain ⟨hb, hl, hr⟩ := bt_drop h
    refine Ev.step (f := fun k => lex_number.j1 k s (n : Int) (i : Int) (dig c)) (fun k => ?_) ?_
    · simp only [lex_number.l0]
      rw [if_pos (by omega), if_pos (by omega), hb, digit_f]
      rfl
    by_cases hc : dig c = true
    · have hc2 := dig_iff.1 hc
      by_cases ho : n ≤ (4611686018427387903 - (c - 48)) / 10
      · refine Ev.step (f := fun k => lex_number.l0 k s ((n * 10 + (c - 48) : Nat) : Int) ((i + 1 : Nat) : Int)) (fun k => ?_) ?_
        · simp only [lex_number.j1]
          rw [if_pos hc, if_pos (by omega), if_pos (by omega), hb, if_neg (by omega), w64_1 (Nat.le_of_lt hl) hs, w64 (x := (n : Int) * 10) (by omega) (by omega), w64 (by omega) (by omega)]
          congr 1
          omega
        · have g := ih (i + 1) (n * 10 + (c - 48)) (by omega) (by omega)
          have e : numR s n i = numR s (n * 10 + (c - 48)) (i + 1) := by
            unfold numR
            rw [h, hr, List.takeWhile_cons, if_pos hc, numS, if_pos ⟨hc, ho⟩, List.length_cons]
            cases numS (n * 10 + (c - 48)) (r.takeWhile dig) with
            | none => rfl
            | some v => simp only; congr 2; omega
          rw [e]
          exact g
      · refine Ev.step (f := fun _ => some (numR s n i)) (fun k => ?_) (Ev.now _)
        simp only [lex_number.j1]
        rw [if_pos hc, if_pos (by omega), if_pos (by omega), hb, if_pos (by omega)]
        unfold numR
        rw [h, List.takeWhile_cons, if_pos hc, numS, if_neg (fun e => ho e.2)]
    · refine Ev.step (f := fun _ => some (numR s n i)) (fun k => ?_) (Ev.now _)
      simp only [lex_number.j1]
      rw [if_neg hc]
      unfold numR
      rw [h, List.takeWhile_cons, if_neg hc]
      simp [numS]
theorem number_f : Ev (fun k => lex_number.f k s) (numR s 0 0) := number_all hs s.size 0 0 (by omega) (by omega)
def numT (s : ByteArray) (n i : Nat) : Int × Bool := match numS n ((B s).drop i) with
  | none => (0, false)
  | some v => ((v : Int), s.toList != [])
theorem refNumber_all : ∀ (m i n : Nat), s.size - i ≤ m → n ≤ 4611686018427387903 → Ev (fun k => kindlingref07_Number.l0 k s (n : Int) (i : Int)) (numT s n i) := by
  intro m
  induction m with
  | zero =>
    intro i n hm hn
    have hd : (B s).drop i = [] := List.drop_eq_nil_iff.2 (by rw [B_length]; omega)
    refine Ev.step (f := fun _ => some (numT s n i)) (fun k => ?_) (Ev.now _)
    simp only [kindlingref07_Number.l0]
    rw [if_neg (by omega)]
    simp [numT, hd, numS]
  | succ m ih =>
    intro i n hm hn
    by_cases hi : i < s.size
    case neg => exact ih i n (by omega) hn
    obtain ⟨c, r, h⟩ := drop_ex s hi
    obtain ⟨hb, hl, hr⟩ := bt_drop h
    have hbt : kindlingref07_between.f (c : Int) 48 57 = some (dig c) := between_f c 48 57
    by_cases hc : dig c = true
    · have hc2 := dig_iff.1 hc
      refine Ev.step (f := fun k => kindlingref07_Number.j1 k s (n : Int) (i : Int) (decide ((n : Int) > ((4611686018427387903 - (((c : Int) - 48) % 256)) / 10)))) (fun k => ?_) ?_
      · simp only [kindlingref07_Number.l0]
        rw [if_pos (by omega), if_pos (by omega), hb, hbt]
        simp only [Option.bind_some]
        rw [if_pos hc]
      by_cases ho : n ≤ (4611686018427387903 - (c - 48)) / 10
      · refine Ev.step (f := fun k => kindlingref07_Number.l0 k s ((n * 10 + (c - 48) : Nat) : Int) ((i + 1 : Nat) : Int)) (fun k => ?_) ?_
        · simp only [kindlingref07_Number.j1]
          rw [if_neg (by simp; omega), if_pos (by omega), if_pos (by omega), hb, w64_1 (Nat.le_of_lt hl) hs, w64 (x := (n : Int) * 10) (by omega) (by omega), w64 (by omega) (by omega)]
          congr 1
          omega
        · have g := ih (i + 1) (n * 10 + (c - 48)) (by omega) (by omega)
          have e : numT s n i = numT s (n * 10 + (c - 48)) (i + 1) := by
            unfold numT
            rw [h, hr, numS, if_pos ⟨hc, ho⟩]
          rw [e]
          exact g
      · refine Ev.step (f := fun _ => some (numT s n i)) (fun k => ?_) (Ev.now _)
        simp only [kindlingref07_Number.j1]
        rw [if_pos (by simp; omega)]
        unfold numT
        rw [h, numS, if_neg (fun e => ho e.2)]
    · refine Ev.step (f := fun k => kindlingref07_Number.j1 k s (n : Int) (i : Int) true) (fun k => ?_) (Ev.step (f := fun _ => some (numT s n i)) (fun k => ?_) (Ev.now _))
      · simp only [kindlingref07_Number.l0]
        rw [if_pos (by omega), if_pos (by omega), hb, hbt]
        simp only [Option.bind_some]
        rw [if_neg hc]
      · simp only [kindlingref07_Number.j1]
        rw [if_pos trivial]
        unfold numT
        rw [h, numS, if_neg (fun e => hc e.1)]
theorem refNumber_f : Ev (fun k => kindlingref07_Number.f k s) (numT s 0 0) := refNumber_all hs s.size 0 0 (by omega) (by omega)
/-- A word's end. -/
theorem word_all : ∀ (m i p : Nat), s.size - i ≤ m → i ≤ s.size → p ≤ i → ∀ x : Int, Ev (fun k => lex_scanner_word.l0 k (p : Int) (i : Int) s x) (s.extract p (i + (((B s).drop i).takeWhile prt).length), s, x) := by
  intro m
  induction m with
  | zero =>
    intro i p hm hi hp x
    have hd : (B s).drop i = [] := List.drop_eq_nil_iff.2 (by rw [B_length]; omega)
    refine Ev.step (f := fun k => lex_scanner_word.j1 k (p : Int) (i : Int) false s x) (fun k => ?_) (Ev.step (f := fun _ => some _) (fun k => ?_) (Ev.now _))
    · simp only [lex_scanner_word.l0]
      rw [if_neg (by omega)]
    · simp only [lex_scanner_word.j1]
      rw [if_neg (by simp), if_pos (by omega), if_pos (by omega), if_pos (by omega)]
      simp [hd]
  | succ m ih =>
    intro i p hm hi' hp x
    by_cases hi : i < s.size
    case neg => exact ih i p (by omega) hi' hp x
    obtain ⟨c, r, h⟩ := drop_ex s hi
    obtain ⟨hb, hl, hr⟩ := bt_drop h
    refine Ev.step (f := fun k => lex_scanner_word.j1 k (p : Int) (i : Int) (prt c) s x) (fun k => ?_) ?_
    · simp only [lex_scanner_word.l0]
      rw [if_pos (by omega), if_pos (by omega), hb, inWord_f]
      rfl
    by_cases hc : prt c = true
    · refine Ev.step (f := fun k => lex_scanner_word.l0 k (p : Int) ((i + 1 : Nat) : Int) s x) (fun k => ?_) ?_
      · simp only [lex_scanner_word.j1]
        rw [if_pos hc, w64_1 (Nat.le_of_lt hl) hs]
      · have g := ih (i + 1) p (by omega) (by omega) (by omega) x
        rw [hr] at g
        rw [h, List.takeWhile_cons, if_pos hc, List.length_cons, show i + ((r.takeWhile prt).length + 1) = i + 1 + (r.takeWhile prt).length by omega]
        exact g
    · refine Ev.step (f := fun _ => some (s.extract p i, s, x)) (fun k => ?_) ?_
      · simp only [lex_scanner_word.j1]
        rw [if_neg hc, if_pos (by omega), if_pos (by omega), if_pos (by omega), Int.toNat_natCast, Int.toNat_natCast]
      · rw [h, List.takeWhile_cons, if_neg hc]
        exact Ev.now _
theorem word_f {p : Nat} (hp : p < s.size) (x : Int) : Ev (fun k => lex_scanner_word.f k s x (p : Int)) (s.extract p (p + 1 + (((B s).drop (p + 1)).takeWhile prt).length), s, x) := by
  refine Ev.congr (fun k => ?_) (word_all hs (s.size) (p + 1) p (by omega) (by omega) (by omega) x)
  unfold lex_scanner_word.f
  rw [w64_1 (Nat.le_of_lt hp) hs]
end
end Go.Proofs.YtnihjlnnllngeaaDoor.Lx
