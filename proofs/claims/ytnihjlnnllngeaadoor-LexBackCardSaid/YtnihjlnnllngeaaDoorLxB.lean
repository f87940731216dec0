/- Blanks and comments: what is passed by, in plain words; and what the program's and the reference's functions make of it. -/
import Derived.Test.YtnihjlnnllngeaaDoorLxA
import Derived.Test.YtnihjlnnllngeaaDoorF0
import Derived.Test.YtnihjlnnllngeaaDoorFPass
namespace Go.Proofs.YtnihjlnnllngeaaDoor.Lx
open Go.RowKit Go.Proofs.YtnihjlnnllngeaaDoorW.PrintWords Go.Proofs.YtnihjlnnllngeaaDoor.PL
set_option linter.unusedVariables false
set_option linter.unusedSimpArgs false
set_option linter.unusedSectionVars false

/-- How many bytes it takes until comments d deep are ended; none: they don't end. -/
def cmt : Nat → List Nat → Option Nat
  | _, [] => none
  | _, [_] => none
  | d, c :: e :: r =>
    if c = 40 ∧ e = 42 then (cmt (d + 1) r).map (· + 2)
    else if c = 42 ∧ e = 41 then (if d ≤ 1 then some 2 else (cmt (d - 1) r).map (· + 2))
    else (cmt d (e :: r)).map (· + 1)
def ws (c : Nat) : Bool := c == 9 || c == 10 || c == 13 || c == 32
theorem cmt_le : ∀ (d : Nat) (l : List Nat) (n : Nat), cmt d l = some n → 2 ≤ n ∧ n ≤ l.length
  | _, [], n, h => by simp [cmt] at h
  | _, [_], n, h => by simp [cmt] at h
  | d, c :: e :: r, n, h => by
    rw [cmt] at h
    split at h
    · obtain ⟨m, hm, rfl⟩ := Option.map_eq_some_iff.1 h
      have := cmt_le _ r m hm
      simp; omega
    · split at h
      · split at h
        · simp at h; subst h; simp
        · obtain ⟨m, hm, rfl⟩ := Option.map_eq_some_iff.1 h
          have := cmt_le _ r m hm
          simp; omega
      · obtain ⟨m, hm, rfl⟩ := Option.map_eq_some_iff.1 h
        have := cmt_le _ (e :: r) m hm
        simp at this ⊢; omega
/-- Blanks and comments that a text begins with: how many bytes; false: a comment doesn't end, which begins there. -/
def skip : List Nat → Nat × Bool
  | [] => (0, true)
  | [c] => if ws c then (1, true) else (0, true)
  | c :: e :: r =>
    if ws c then ((skip (e :: r)).1 + 1, (skip (e :: r)).2)
    else if c = 40 ∧ e = 42 then
      match cmt 1 r with
      | none => (0, false)
      | some n => ((skip (r.drop n)).1 + (n + 2), (skip (r.drop n)).2)
    else (0, true)
termination_by l => l.length
decreasing_by all_goals (simp; try omega)
theorem skip_le : ∀ (l : List Nat), (skip l).1 ≤ l.length
  | [] => by simp [skip]
  | [c] => by rw [skip]; split <;> simp
  | c :: e :: r => by
    rw [skip]
    split
    · have := skip_le (e :: r); simp at this ⊢; omega
    · split
      · cases h : cmt 1 r with
        | none => simp
        | some n =>
          have h1 := cmt_le 1 r n h
          have h2 := skip_le (r.drop n)
          rw [List.length_drop] at h2
          simp; omega
      · simp
termination_by l => l.length
decreasing_by all_goals (simp; try omega)

def two (s : ByteArray) (i : Nat) : ByteArray := if i + 1 < s.size then s.extract i (i + 2) else ⟨#[]⟩
theorem two_toList {s : ByteArray} {i c : Nat} {r : List Nat} (h : (B s).drop i = c :: r) (a b : UInt8) : (two s i).toList = [a, b] ↔ c = a.toNat ∧ r.head? = some b.toNat := by
  obtain ⟨_, hl, hr⟩ := bt_drop h
  rw [toList_eq_iff]
  unfold two
  cases r with
  | nil =>
    have := drop_nil hr
    rw [if_neg (by omega)]
    simp [B]
  | cons e r =>
    obtain ⟨_, hl2, _⟩ := bt_drop hr
    rw [if_pos hl2, B_extract, h]
    simp
theorem two_beq {s : ByteArray} {i c : Nat} {r : List Nat} (h : (B s).drop i = c :: r) (a b : UInt8) : ((two s i).toList == [a, b]) = decide (c = a.toNat ∧ r.head? = some b.toNat) := by
  rw [Bool.eq_iff_iff, beq_iff_eq, decide_eq_true_iff]
  exact two_toList h a b
theorem skip_ws {c : Nat} {r : List Nat} (h : ws c = true) : skip (c :: r) = ((skip r).1 + 1, (skip r).2) := by
  cases r with
  | nil => simp [skip, h]
  | cons e r => rw [skip, if_pos h]
theorem skip_open (r : List Nat) : skip (40 :: 42 :: r) = match cmt 1 r with
    | none => (0, false)
    | some n => ((skip (r.drop n)).1 + (n + 2), (skip (r.drop n)).2) := by
  rw [skip, if_neg (by decide), if_pos ⟨rfl, rfl⟩]
theorem skip_else {c : Nat} {r : List Nat} (h : ¬ ws c = true) (h2 : ¬ (c = 40 ∧ r.head? = some 42)) : skip (c :: r) = (0, true) := by
  cases r with
  | nil => rw [skip, if_neg h]
  | cons e r => rw [skip, if_neg h, if_neg (by simpa using h2)]
theorem cmt_open (d : Nat) (r : List Nat) : cmt d (40 :: 42 :: r) = (cmt (d + 1) r).map (· + 2) := by
  rw [cmt, if_pos ⟨rfl, rfl⟩]
theorem cmt_close (d : Nat) (r : List Nat) : cmt d (42 :: 41 :: r) = if d ≤ 1 then some 2 else (cmt (d - 1) r).map (· + 2) := by
  rw [cmt, if_neg (by decide), if_pos ⟨rfl, rfl⟩]
theorem cmt_other {d c : Nat} {r : List Nat} (h : ¬ (c = 40 ∧ r.head? = some 42)) (h2 : ¬ (c = 42 ∧ r.head? = some 41)) : cmt d (c :: r) = (cmt d r).map (· + 1) := by
  cases r with
  | nil => simp [cmt]
  | cons e r => rw [cmt, if_neg (by simpa using h), if_neg (by simpa using h2)]
theorem head_ex {r : List Nat} {e : Nat} (h : r.head? = some e) : ∃ t, r = e :: t := by
  cases r with
  | nil => simp at h
  | cons x t => simp at h; exact ⟨t, by rw [h]⟩
/-- What passing by ends with. -/
def passQ (s : ByteArray) (d : Nat) (fr : Int) (i : Nat) : Bool × ByteArray × Int :=
  if d = 0 then ((skip ((B s).drop i)).2, s, ((i + (skip ((B s).drop i)).1 : Nat) : Int))
  else match cmt d ((B s).drop i) with
    | none => (false, s, fr)
    | some n => ((skip ((B s).drop (i + n))).2, s, ((i + n + (skip ((B s).drop (i + n))).1 : Nat) : Int))
section
variable {s : ByteArray} (hs : s.size ≤ 140737488351232)
include hs
theorem pass_l0 {i : Nat} (h : i < s.size) (k : Nat) (d fr : Int) : lex_scanner_pass.l0 (k + 1) d fr s (i : Int) = lex_scanner_pass.j1 k d fr (bt s (i : Int)) (two s i) s (i : Int) := by
  simp only [lex_scanner_pass.l0]
  rw [if_pos (by omega), if_pos (by omega), w64_1 (by omega) hs, w64_2 (by omega) hs]
  by_cases h2 : i + 1 < s.size
  · rw [if_pos (by omega), if_pos (by omega), if_pos (by omega), two, if_pos h2, Int.toNat_natCast, Int.toNat_natCast]
  · rw [if_neg (by omega)]
    simp [two, h2]
theorem pass_end {i : Nat} (h : s.size ≤ i) (k : Nat) (d fr : Int) : lex_scanner_pass.l0 (k + 1) d fr s (i : Int) = if d > 0 then some (d == 0, s, fr) else some (d == 0, s, (i : Int)) := by
  simp only [lex_scanner_pass.l0]
  rw [if_neg (by omega)]
/-- One round. -/
theorem pass_round {i c : Nat} {r : List Nat} (h : (B s).drop i = c :: r) {d : Nat} {fr : Int} {q : Bool × ByteArray × Int}
    (hq : if c = 40 ∧ r.head? = some 42 then Ev (fun k => lex_scanner_pass.l0 k ((d + 1 : Nat) : Int) (if d = 0 then (i : Int) else fr) s ((i + 2 : Nat) : Int)) q
      else if 0 < d ∧ c = 42 ∧ r.head? = some 41 then Ev (fun k => lex_scanner_pass.l0 k ((d - 1 : Nat) : Int) fr s ((i + 2 : Nat) : Int)) q
      else if 0 < d ∨ ws c = true then Ev (fun k => lex_scanner_pass.l0 k (d : Int) fr s ((i + 1 : Nat) : Int)) q
      else q = (true, s, (i : Int))) (hd : d ≤ i) :
    Ev (fun k => lex_scanner_pass.l0 k (d : Int) fr s (i : Int)) q := by
  obtain ⟨hb, hl, hr⟩ := bt_drop h
  refine Ev.step (fun k => pass_l0 hs hl k _ _) ?_
  have e1 := two_toList h 40 42
  have e2 := two_beq h 42 41
  simp only [show (40 : UInt8).toNat = 40 from rfl, show (42 : UInt8).toNat = 42 from rfl, show (41 : UInt8).toNat = 41 from rfl] at e1 e2
  by_cases a : c = 40 ∧ r.head? = some 42
  · rw [if_pos a] at hq
    by_cases d0 : d = 0
    · rw [if_pos d0] at hq
      refine Ev.step (f := fun k => lex_scanner_pass.l0 k ((d + 1 : Nat) : Int) (i : Int) s ((i + 2 : Nat) : Int)) (fun k => ?_) hq
      simp only [lex_scanner_pass.j1]
      rw [if_pos (e1.2 a), if_pos (by omega), w64_1 (by omega : d ≤ s.size) hs, w64_2 (by omega) hs]
    · rw [if_neg d0] at hq
      refine Ev.step (f := fun k => lex_scanner_pass.l0 k ((d + 1 : Nat) : Int) fr s ((i + 2 : Nat) : Int)) (fun k => ?_) hq
      simp only [lex_scanner_pass.j1]
      rw [if_pos (e1.2 a), if_neg (by omega), w64_1 (by omega : d ≤ s.size) hs, w64_2 (by omega) hs]
  · rw [if_neg a] at hq
    by_cases dp : 0 < d
    · refine Ev.step (f := fun k => lex_scanner_pass.j2 k (d : Int) fr (bt s (i : Int)) (decide (c = 42 ∧ r.head? = some 41)) s (i : Int)) (fun k => ?_) ?_
      · simp only [lex_scanner_pass.j1]
        rw [if_neg (fun e => a (e1.1 e)), if_pos (by omega), e2]
      · by_cases b : c = 42 ∧ r.head? = some 41
        · rw [if_pos ⟨dp, b⟩] at hq
          refine Ev.step (fun k => ?_) hq
          simp only [lex_scanner_pass.j2]
          rw [if_pos (by simp [b]), w64_2 (by omega) hs, w64 (by omega) (by omega)]
          congr 1
          omega
        · rw [if_neg (fun e => b e.2), if_pos (.inl dp)] at hq
          refine Ev.step (f := fun k => lex_scanner_pass.j3 k (d : Int) fr true s (i : Int)) (fun k => ?_) (Ev.step (fun k => ?_) hq)
          · simp only [lex_scanner_pass.j2]
            rw [if_neg (by simpa using b), if_pos (by omega)]
          · simp only [lex_scanner_pass.j3]
            rw [if_pos trivial, w64_1 (by omega) hs]
    · rw [if_neg (fun e => dp e.1)] at hq
      refine Ev.step (f := fun k => lex_scanner_pass.j2 k (d : Int) fr (bt s (i : Int)) false s (i : Int)) (fun k => ?_) ?_
      · simp only [lex_scanner_pass.j1]
        rw [if_neg (fun e => a (e1.1 e)), if_neg (by omega)]
      refine Ev.step (f := fun k => lex_scanner_pass.j3 k (d : Int) fr (ws c) s (i : Int)) (fun k => ?_) ?_
      · simp only [lex_scanner_pass.j2]
        rw [if_neg (by simp), if_neg (by omega), hb]
        unfold ws
        by_cases c1 : c = 9
        · subst c1; simp
        · by_cases c2 : c = 10
          · subst c2; simp
          · by_cases c3 : c = 13
            · subst c3; simp
            · rw [if_neg (by omega), if_neg (by omega), if_neg (by omega)]
              congr 1
              rw [Bool.eq_iff_iff]
              simp [c1, c2, c3]
              omega
      · by_cases hw : ws c = true
        · rw [if_pos (.inr hw)] at hq
          refine Ev.step (fun k => ?_) hq
          simp only [lex_scanner_pass.j3]
          rw [if_pos hw, w64_1 (by omega) hs]
        · rw [if_neg (by simp [dp, hw])] at hq
          subst hq
          refine Ev.step (f := fun _ => some (true, s, (i : Int))) (fun k => ?_) (Ev.now _)
          simp only [lex_scanner_pass.j3]
          rw [if_neg hw]
theorem pass_all : ∀ (m i d : Nat) (fr : Int), s.size - i ≤ m → d ≤ i → Ev (fun k => lex_scanner_pass.l0 k (d : Int) fr s (i : Int)) (passQ s d fr i) := by
  intro m
  induction m with
  | zero =>
    intro i d fr hm hd
    have hn : (B s).drop i = [] := List.drop_eq_nil_iff.2 (by rw [B_length]; omega)
    have e : ∀ k, lex_scanner_pass.l0 (k + 1) (d : Int) fr s (i : Int) = some (passQ s d fr i) := fun k => by
      rw [pass_end hs (by omega)]
      unfold passQ
      rw [hn]
      by_cases d0 : d = 0
      · subst d0
        simp [skip]
      · rw [if_pos (by omega), if_neg d0]
        simp [cmt, d0]
    exact Ev.step (f := fun _ => some (passQ s d fr i)) e (Ev.now _)
  | succ m ih =>
    intro i d fr hm hd
    by_cases hi : i < s.size
    case neg =>
      exact ih i d fr (by omega) hd
    obtain ⟨c, r, h⟩ := drop_ex s hi
    obtain ⟨hb, hl, hr⟩ := bt_drop h
    have h2 : ∀ {e t}, r = e :: t → (B s).drop (i + 2) = t := fun {e t} e1 => (bt_drop (hr.trans e1)).2.2
    have hdrop : ∀ {e t}, r = e :: t → ∀ n, (B s).drop (i + 2 + n) = t.drop n := fun {e t} e1 n => by rw [← List.drop_drop, h2 e1]
    refine pass_round hs h ?_ hd
    by_cases a : c = 40 ∧ r.head? = some 42
    · rw [if_pos a]
      obtain ⟨t, ht⟩ := head_ex a.2
      have g := ih (i + 2) (d + 1) (if d = 0 then (i : Int) else fr) (by omega) (by omega)
      have e : passQ s d fr i = passQ s (d + 1) (if d = 0 then (i : Int) else fr) (i + 2) := by
        unfold passQ
        rw [h, h2 ht, if_neg (by omega : ¬ d + 1 = 0), a.1, ht]
        by_cases d0 : d = 0
        · subst d0
          rw [if_pos rfl, if_pos rfl, skip_open]
          cases hc : cmt 1 t with
          | none => simp [hc]
          | some n =>
            simp only [Nat.zero_add, hc, hdrop ht]
            congr 2
            omega
        · rw [if_neg d0, if_neg d0, cmt_open]
          cases hc : cmt (d + 1) t with
          | none => simp
          | some n =>
            simp only [Option.map_some, show i + (n + 2) = i + 2 + n by omega]
      rw [e]
      exact g
    · rw [if_neg a]
      by_cases b : 0 < d ∧ c = 42 ∧ r.head? = some 41
      · rw [if_pos b]
        obtain ⟨t, ht⟩ := head_ex b.2.2
        have g := ih (i + 2) (d - 1) fr (by omega) (by omega)
        have e : passQ s d fr i = passQ s (d - 1) fr (i + 2) := by
          unfold passQ
          rw [h, h2 ht, if_neg (by omega : ¬ d = 0), b.2.1, ht, cmt_close]
          by_cases d1 : d = 1
          · subst d1
            simp [h2 ht]
          · rw [if_neg (by omega : ¬ d ≤ 1), if_neg (by omega : ¬ d - 1 = 0)]
            cases hc : cmt (d - 1) t with
            | none => simp
            | some n =>
              simp only [Option.map_some, show i + (n + 2) = i + 2 + n by omega]
        rw [e]
        exact g
      · rw [if_neg b]
        by_cases w : 0 < d ∨ ws c = true
        · rw [if_pos w]
          have g := ih (i + 1) d fr (by omega) (by omega)
          have e : passQ s d fr i = passQ s d fr (i + 1) := by
            unfold passQ
            rw [h, hr]
            by_cases d0 : d = 0
            · rw [if_pos d0, if_pos d0, skip_ws (w.resolve_left (by omega))]
              simp only
              congr 2
              omega
            · rw [if_neg d0, if_neg d0, cmt_other a (fun e => b ⟨by omega, e⟩)]
              cases hc : cmt d r with
              | none => simp
              | some n =>
                simp only [Option.map_some, show i + (n + 1) = i + 1 + n by omega]
          rw [e]
          exact g
        · rw [if_neg w]
          have d0 : d = 0 := by omega
          subst d0
          unfold passQ
          rw [h, if_pos rfl, skip_else (fun e => w (.inr e)) a]
          rfl
theorem pass_f {i : Nat} : Ev (fun k => lex_scanner_pass.f k s (i : Int)) ((skip ((B s).drop i)).2, s, ((i + (skip ((B s).drop i)).1 : Nat) : Int)) := by
  have := pass_all hs (s.size - i) i 0 0 (Nat.le_refl _) (Nat.zero_le _)
  unfold passQ at this
  exact this
end
end Go.Proofs.YtnihjlnnllngeaaDoor.Lx
