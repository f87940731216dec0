/- Blanks and comments: the reference's functions make of a text what skip says. -/
import Derived.Test.YtnihjlnnllngeaaDoorLxB
import Derived.Test.YtnihjlnnllngeaaDoorF0
import Derived.Test.YtnihjlnnllngeaaDoorFRBlank
namespace Go.Proofs.YtnihjlnnllngeaaDoor.Lx
open Go.RowKit Go.Proofs.YtnihjlnnllngeaaDoorW.PrintWords Go.Proofs.YtnihjlnnllngeaaDoor.PL
set_option linter.unusedVariables false
set_option linter.unusedSimpArgs false
set_option linter.unusedSectionVars false

theorem pair_at {s : ByteArray} (hs : s.size ≤ 140737488351232) {β : Type} (F : Bool → Option β) {i c : Nat} {r : List Nat} (h : (B s).drop i = c :: r) (a b : Nat) :
    (if wrap64 ((i : Int) + 1) < (s.size : Int) then (if 0 ≤ (i : Int) then (if bt s (i : Int) = (a : Int) then (if 0 ≤ wrap64 ((i : Int) + 1) then F (bt s (wrap64 ((i : Int) + 1)) == (b : Int)) else none) else F false) else none) else F false)
      = F (decide (c = a ∧ r.head? = some b)) := by
  obtain ⟨hb, hl, hr⟩ := bt_drop h
  rw [w64_1 (Nat.le_of_lt hl) hs, hb]
  cases r with
  | nil =>
    have := drop_nil hr
    rw [if_neg (by omega)]
    simp
  | cons e t =>
    obtain ⟨hb2, hl2, _⟩ := bt_drop hr
    rw [if_pos (by omega), if_pos (by omega), hb2]
    by_cases ha : c = a
    · subst ha
      rw [if_pos rfl, if_pos (by omega)]
      congr 1
      rw [Bool.eq_iff_iff]
      simp
      omega
    · rw [if_neg (by omega)]
      simp [ha]
section
variable {s : ByteArray} (hs : s.size ≤ 140737488351232)
include hs
theorem comment_l0 {i c : Nat} {r : List Nat} (h : (B s).drop i = c :: r) (k : Nat) : kindlingref07_comment.l0 (k + 1) s (i : Int) = kindlingref07_comment.j1 k s (i : Int) (decide (c = 42 ∧ r.head? = some 41)) := by
  obtain ⟨hb, hl, hr⟩ := bt_drop h
  simp only [kindlingref07_comment.l0]
  rw [if_pos (by omega)]
  exact pair_at hs (fun b => kindlingref07_comment.j1 k s (i : Int) b) h 42 41
theorem comment_j1 {i c : Nat} {r : List Nat} (h : (B s).drop i = c :: r) (k : Nat) (x : Bool) : kindlingref07_comment.j1 (k + 1) s (i : Int) x = if x = true then some ((i + 2 : Nat) : Int) else kindlingref07_comment.j2 k s (i : Int) (decide (c = 40 ∧ r.head? = some 42)) := by
  obtain ⟨hb, hl, hr⟩ := bt_drop h
  simp only [kindlingref07_comment.j1]
  rw [if_pos (by omega : (i : Int) < (s.size : Int)), w64_2 (Nat.le_of_lt hl) hs]
  congr 1
  exact pair_at hs (fun b => kindlingref07_comment.j2 k s (i : Int) b) h 40 42
theorem comment_j2 {i : Nat} (hl : i < s.size) (k : Nat) (x : Bool) : kindlingref07_comment.j2 (k + 1) s (i : Int) x = if x = true then (kindlingref07_comment.f k (s.extract i s.size)).bind fun t => if t = 0 then some 0 else kindlingref07_comment.l0 k s (wrap64 ((i : Int) + t)) else kindlingref07_comment.l0 k s ((i + 1 : Nat) : Int) := by
  simp only [kindlingref07_comment.j2]
  rw [if_pos (by omega : 0 ≤ (i : Int)), if_pos (by omega : (i : Int) ≤ (s.size : Int)), w64_1 (Nat.le_of_lt hl) hs, Int.toNat_natCast]
end
/-- How far a comment goes, read from a place within it; 0: it doesn't end. -/
def cmtR (s : ByteArray) (i : Nat) : Int := match cmt 1 ((B s).drop i) with
  | none => 0
  | some n => ((i + n : Nat) : Int)
theorem comment_all : ∀ (m : Nat) (s : ByteArray) (i : Nat), s.size ≤ 140737488351232 → s.size - i ≤ m → Ev (fun k => kindlingref07_comment.l0 k s (i : Int)) (cmtR s i) := by
  intro m
  induction m with
  | zero =>
    intro s i hs hm
    have hn : (B s).drop i = [] := List.drop_eq_nil_iff.2 (by rw [B_length]; omega)
    refine Ev.step (f := fun _ => some (cmtR s i)) (fun k => ?_) (Ev.now _)
    simp only [kindlingref07_comment.l0]
    rw [if_neg (by omega)]
    simp [cmtR, hn, cmt]
  | succ m ih =>
    intro s i hs hm
    by_cases hi : i < s.size
    case neg => exact ih s i hs (by omega)
    obtain ⟨c, r, h⟩ := drop_ex s hi
    obtain ⟨hb, hl, hr⟩ := bt_drop h
    refine Ev.step (fun k => comment_l0 hs h k) ?_
    by_cases b : c = 42 ∧ r.head? = some 41
    · obtain ⟨t, ht⟩ := head_ex b.2
      have e : cmtR s i = ((i + 2 : Nat) : Int) := by
        unfold cmtR
        rw [h, b.1, ht, cmt_close]
        simp
      rw [e]
      exact Ev.step (f := fun _ => some ((i + 2 : Nat) : Int)) (fun k => by rw [comment_j1 hs h, if_pos (by simpa using b)]) (Ev.now _)
    refine Ev.step (f := fun k => kindlingref07_comment.j2 k s (i : Int) (decide (c = 40 ∧ r.head? = some 42))) (fun k => by rw [comment_j1 hs h, if_neg (by simpa using b)]) ?_
    by_cases a : c = 40 ∧ r.head? = some 42
    · obtain ⟨t, ht⟩ := head_ex a.2
      have ht2 : (B s).drop (i + 2) = t := (bt_drop (hr.trans ht)).2.2
      have hl2 := (bt_drop (hr.trans ht)).2.1
      refine Ev.step (f := fun k => (kindlingref07_comment.f k (s.extract i s.size)).bind fun t => if t = 0 then some 0 else kindlingref07_comment.l0 k s (wrap64 ((i : Int) + t))) (fun k => by rw [comment_j2 hs hl, if_pos (by simpa using a)]) ?_
      have g := ih (s.extract i s.size) 2 (by rw [size_rest]; omega) (by rw [size_rest]; omega)
      have g2 : Ev (fun k => kindlingref07_comment.f k (s.extract i s.size)) (cmtR (s.extract i s.size) 2) := Ev.step (f := fun k => kindlingref07_comment.l0 k (s.extract i s.size) ((2 : Nat) : Int)) (fun k => rfl) g
      refine Ev.bind g2 ?_
      have e2 : cmtR (s.extract i s.size) 2 = match cmt 1 t with | none => 0 | some n => ((2 + n : Nat) : Int) := by
        unfold cmtR
        rw [B_rest, List.drop_drop, ht2]
      have e1 : cmtR s i = match (cmt 2 t).map (· + 2) with | none => 0 | some n => ((i + n : Nat) : Int) := by
        unfold cmtR
        rw [h, a.1, ht, cmt_open]
      rw [e2, e1, show 2 = 0 + 2 from rfl, cmt_comp t 0]
      cases hc : cmt 1 t with
      | none => exact Ev.now _
      | some n =>
        have hn := cmt_le 1 t n hc
        have hlen : t.length = s.size - (i + 2) := by rw [← ht2, List.length_drop, B_length]
        have g3 := ih s (i + 2 + n) hs (by omega)
        have e3 : cmtR s (i + 2 + n) = match cmt 1 (t.drop n) with | none => 0 | some m => ((i + 2 + n + m : Nat) : Int) := by
          unfold cmtR
          rw [← List.drop_drop, ht2]
        simp only [Option.bind_some, Nat.zero_add]
        have e4 : (match ((cmt 1 (t.drop n)).map (n + ·)).map (· + 2) with | none => 0 | some n => ((i + n : Nat) : Int)) = cmtR s (i + 2 + n) := by
          rw [e3]
          cases cmt 1 (t.drop n) with
          | none => rfl
          | some m => simp only [Option.map_some]; congr 1; omega
        rw [e4]
        refine Ev.congr (fun k => ?_) g3
        rw [if_neg (by omega), w64_add (n := s.size) (by omega) (by omega)]
        congr 2
        omega
    · refine Ev.step (f := fun k => kindlingref07_comment.l0 k s ((i + 1 : Nat) : Int)) (fun k => by rw [comment_j2 hs hl, if_neg (by simpa using a)]) ?_
      have e : cmtR s i = cmtR s (i + 1) := by
        unfold cmtR
        rw [h, hr, cmt_other a b]
        cases hc : cmt 1 r with
        | none => rfl
        | some n => simp only [Option.map_some]; congr 1; omega
      rw [e]
      exact ih s (i + 1) hs (by omega)
theorem comment_f {s : ByteArray} (hs : s.size ≤ 140737488351232) : Ev (fun k => kindlingref07_comment.f k s) (cmtR s 2) :=
  Ev.step (f := fun k => kindlingref07_comment.l0 k s ((2 : Nat) : Int)) (fun k => rfl) (comment_all _ s 2 hs (Nat.le_refl _))
section
variable {s : ByteArray} (hs : s.size ≤ 140737488351232)
include hs
theorem blank_l0 {i c : Nat} {r : List Nat} (h : (B s).drop i = c :: r) (k : Nat) : kindlingref07_Blank.l0 (k + 1) s (i : Int) = kindlingref07_Blank.j1 k s (i : Int) (ws c) := by
  obtain ⟨hb, hl, hr⟩ := bt_drop h
  simp only [kindlingref07_Blank.l0]
  rw [if_pos (by omega), if_pos (by omega), hb]
  unfold ws
  by_cases c1 : c = 9
  · subst c1; simp
  · by_cases c2 : c = 10
    · subst c2; simp
    · by_cases c3 : c = 13
      · subst c3; simp
      · rw [if_neg (by omega), if_neg (by omega), if_neg (by omega)]
        congr 1
        rw [Bool.eq_iff_iff]
        simp [c1, c2, c3]
        omega
theorem blank_j1 {i c : Nat} {r : List Nat} (h : (B s).drop i = c :: r) (k : Nat) (x : Bool) : kindlingref07_Blank.j1 (k + 1) s (i : Int) x = if x = true then kindlingref07_Blank.l0 k s ((i + 1 : Nat) : Int) else kindlingref07_Blank.j2 k s (i : Int) (decide (c = 40 ∧ r.head? = some 42)) := by
  obtain ⟨hb, hl, hr⟩ := bt_drop h
  simp only [kindlingref07_Blank.j1]
  rw [if_pos (by omega : (i : Int) < (s.size : Int))]
  congr 1
  · rw [w64_1 (Nat.le_of_lt hl) hs]
  · exact pair_at hs (fun b => kindlingref07_Blank.j2 k s (i : Int) b) h 40 42
theorem blank_j2 {i : Nat} (hl : i < s.size) (k : Nat) (x : Bool) : kindlingref07_Blank.j2 (k + 1) s (i : Int) x = if x = true then (kindlingref07_comment.f k (s.extract i s.size)).bind fun t => if t = 0 then some ((i : Int), false) else kindlingref07_Blank.l0 k s (wrap64 ((i : Int) + t)) else some ((i : Int), true) := by
  simp only [kindlingref07_Blank.j2]
  rw [if_pos (by omega : 0 ≤ (i : Int)), if_pos (by omega : (i : Int) ≤ (s.size : Int)), Int.toNat_natCast]
theorem blank_all : ∀ (m i : Nat), s.size - i ≤ m → Ev (fun k => kindlingref07_Blank.l0 k s (i : Int)) (((i + (skip ((B s).drop i)).1 : Nat) : Int), (skip ((B s).drop i)).2) := by
  intro m
  induction m with
  | zero =>
    intro i hm
    have hn : (B s).drop i = [] := List.drop_eq_nil_iff.2 (by rw [B_length]; omega)
    refine Ev.step (f := fun _ => some _) (fun k => ?_) (Ev.now _)
    simp only [kindlingref07_Blank.l0]
    rw [if_neg (by omega), hn]
    simp [skip]
  | succ m ih =>
    intro i hm
    by_cases hi : i < s.size
    case neg => exact ih i (by omega)
    obtain ⟨c, r, h⟩ := drop_ex s hi
    obtain ⟨hb, hl, hr⟩ := bt_drop h
    refine Ev.step (fun k => blank_l0 hs h k) ?_
    by_cases w : ws c = true
    · refine Ev.step (f := fun k => kindlingref07_Blank.l0 k s ((i + 1 : Nat) : Int)) (fun k => by rw [blank_j1 hs h, if_pos w]) ?_
      have g := ih (i + 1) (by omega)
      rw [hr] at g
      rw [h, skip_ws w]
      simp only
      rw [show i + ((skip r).1 + 1) = i + 1 + (skip r).1 by omega]
      exact g
    refine Ev.step (f := fun k => kindlingref07_Blank.j2 k s (i : Int) (decide (c = 40 ∧ r.head? = some 42))) (fun k => by rw [blank_j1 hs h, if_neg w]) ?_
    by_cases a : c = 40 ∧ r.head? = some 42
    · obtain ⟨t, ht⟩ := head_ex a.2
      have ht2 : (B s).drop (i + 2) = t := (bt_drop (hr.trans ht)).2.2
      have hl2 := (bt_drop (hr.trans ht)).2.1
      refine Ev.step (f := fun k => (kindlingref07_comment.f k (s.extract i s.size)).bind fun t => if t = 0 then some ((i : Int), false) else kindlingref07_Blank.l0 k s (wrap64 ((i : Int) + t))) (fun k => by rw [blank_j2 hs hl, if_pos (by simpa using a)]) ?_
      refine Ev.bind (comment_f (s := s.extract i s.size) (by rw [size_rest]; omega)) ?_
      have e2 : cmtR (s.extract i s.size) 2 = match cmt 1 t with | none => 0 | some n => ((2 + n : Nat) : Int) := by
        unfold cmtR
        rw [B_rest, List.drop_drop, ht2]
      rw [e2, h, a.1, ht, skip_open]
      cases hc : cmt 1 t with
      | none => exact Ev.now _
      | some n =>
        have hn := cmt_le 1 t n hc
        have hlen : t.length = s.size - (i + 2) := by rw [← ht2, List.length_drop, B_length]
        have g := ih (i + (2 + n)) (by omega)
        rw [show (B s).drop (i + (2 + n)) = t.drop n by rw [← ht2, List.drop_drop]; congr 1; omega] at g
        simp only
        rw [show i + ((skip (t.drop n)).1 + (n + 2)) = i + (2 + n) + (skip (t.drop n)).1 by omega]
        refine Ev.congr (fun k => ?_) g
        rw [if_neg (by omega), w64_add (n := s.size) (by omega) (by omega)]
    · refine Ev.step (f := fun _ => some ((i : Int), true)) (fun k => by rw [blank_j2 hs hl, if_neg (by simpa using a)]) ?_
      rw [h, skip_else w a]
      exact Ev.now _
theorem blank_f : Ev (fun k => kindlingref07_Blank.f k s) (((skip (B s)).1 : Int), (skip (B s)).2) := by
  have := blank_all hs s.size 0 (by omega)
  rw [Nat.zero_add, List.drop_zero] at this
  exact this
end
end Go.Proofs.YtnihjlnnllngeaaDoor.Lx
