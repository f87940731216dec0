/- Which tokens are right: both ways of telling it are the same. -/
import Derived.Test.YtnihjlnnllngeaaDoorLxU
import Derived.Test.YtnihjlnnllngeaaDoorFKind
import Derived.Test.YtnihjlnnllngeaaDoorFRight
import Derived.Test.YtnihjlnnllngeaaDoorFRToken
import Derived.Test.YtnihjlnnllngeaaDoorFRWritten
import Derived.Test.YtnihjlnnllngeaaDoorFRRight
namespace Go.Proofs.YtnihjlnnllngeaaDoor.Lx
open Go.RowKit Go.Proofs.YtnihjlnnllngeaaDoorW.PrintWords Go.Proofs.YtnihjlnnllngeaaDoor.PL
set_option linter.unusedVariables false
set_option linter.unusedSimpArgs false
set_option linter.unusedSectionVars false
/-- Whether a token of that kind, text and number is one of some text. -/
def rightS (a : Int) (s : ByteArray) (v : Int) : Bool :=
  if a = 0 then B s == [] && v == 0
  else if a = 1 then B s == [] && (decide (0 ≤ v) && decide (v ≤ 4611686018427387903))
  else if a = 2 then v == 0
  else if a = 7 then v == 0 && hasB lG0 s
  else if a = 5 then tvS (B s) && v == 0
  else if a = 3 ∨ a = 4 ∨ a = 6 then wordS (B s) && (v == 0 && wk s == a)
  else false
theorem empty_iff (s : ByteArray) : s.toList = ([] : List UInt8) ↔ B s = [] := toList_eq_iff s []
section
variable {s : ByteArray} (hs : s.size ≤ 1000000)
include hs
theorem lexR_l0 (a v p : Int) : ∀ (m i : Nat), s.size - i ≤ m → Ev (fun k => lex_Right.l0 k (i : Int) a s v p) (((B s).drop i).all (fun x => x != 39 && prt x) && v == 0) := by
  intro m
  induction m with
  | zero =>
    intro i hm
    have hd : (B s).drop i = [] := List.drop_eq_nil_iff.2 (by rw [B_length]; omega)
    refine Ev.step (f := fun _ => some (((B s).drop i).all (fun x => x != 39 && prt x) && v == 0)) (fun k => ?_) (Ev.now _)
    simp only [lex_Right.l0]
    rw [if_neg (by omega), hd]
    rfl
  | succ m ih =>
    intro i hm
    by_cases hi : i < s.size
    case neg => exact ih i (by omega)
    obtain ⟨c, r, h⟩ := drop_ex s hi
    obtain ⟨hb, hl, hr⟩ := bt_drop h
    have step : ∀ k, lex_Right.l0 (k + 1) (i : Int) a s v p = lex_Right.j2 k (i : Int) (!(c != 39 && prt c)) a s v p := by
      intro k
      simp only [lex_Right.l0]
      rw [if_pos (by omega), if_pos (by omega), hb, inWord_f]
      by_cases h39 : c = 39
      · rw [if_pos (by omega), h39]
        rfl
      · rw [if_neg (by omega), bne_iff_ne.2 h39]
        rfl
    have step2 : ∀ k x, lex_Right.j2 (k + 1) (i : Int) x a s v p = if x = true then some false else lex_Right.l0 k ((i + 1 : Nat) : Int) a s v p := by
      intro k x
      simp only [lex_Right.j2]
      rw [w64_1 (Nat.le_of_lt hl) (by omega)]
    rw [h, List.all_cons]
    refine Ev.step step ?_
    cases hc : (c != 39 && prt c)
    · rw [Bool.false_and, Bool.false_and]
      exact Ev.step (f := fun _ => some false) (fun k => by rw [step2]; rfl) (Ev.now _)
    · rw [Bool.true_and, ← hr]
      exact Ev.step (fun k => by rw [step2]; rfl) (ih (i + 1) (by omega))
theorem lexR_l1 (a v p : Int) (h0 : 0 < s.size) : ∀ (m i : Nat), s.size - i ≤ m → Ev (fun k => lex_Right.l1 k (i : Int) a s v p) (((B s).drop i).all prt && (v == 0 && wk s == a)) := by
  intro m
  induction m with
  | zero =>
    intro i hm
    have hd : (B s).drop i = [] := List.drop_eq_nil_iff.2 (by rw [B_length]; omega)
    rw [hd, List.all_nil, Bool.true_and]
    by_cases hv : v = 0
    · rw [show (v == 0) = true from beq_iff_eq.2 hv, Bool.true_and]
      refine Ev.step (f := fun k => (lex_wordKind.f k s).bind fun t147 => (some (t147 == a))) (fun k => ?_) (Ev.bind (wordKind_f h0) (Ev.now _))
      simp only [lex_Right.l1]
      rw [if_neg (by omega), if_pos hv]
    · rw [show (v == 0) = false from beq_eq_false_iff_ne.2 hv, Bool.false_and]
      refine Ev.step (f := fun _ => some false) (fun k => ?_) (Ev.now _)
      simp only [lex_Right.l1]
      rw [if_neg (by omega), if_neg hv]
  | succ m ih =>
    intro i hm
    by_cases hi : i < s.size
    case neg => exact ih i (by omega)
    obtain ⟨c, r, h⟩ := drop_ex s hi
    obtain ⟨hb, hl, hr⟩ := bt_drop h
    have step : ∀ k, lex_Right.l1 (k + 1) (i : Int) a s v p = if prt c = true then lex_Right.l1 k ((i + 1 : Nat) : Int) a s v p else some false := by
      intro k
      simp only [lex_Right.l1]
      rw [if_pos (by omega), if_pos (by omega), hb, inWord_f, w64_1 (Nat.le_of_lt hl) (by omega)]
      rfl
    rw [h, List.all_cons]
    by_cases hc : prt c = true
    · rw [hc, Bool.true_and, ← hr]
      exact Ev.step (fun k => by rw [step, if_pos hc]) (ih (i + 1) (by omega))
    · rw [show prt c = false by simpa using hc, Bool.false_and, Bool.false_and]
      exact Ev.step (f := fun _ => some false) (fun k => by rw [step, if_neg hc]) (Ev.now _)
theorem lexRight_f (a v p : Int) : Ev (fun k => lex_Right.f k a s v p) (rightS a s v) := by
  unfold lex_Right.f rightS
  by_cases a0 : a = 0
  · rw [if_pos a0]
    refine Ev.congr (fun k => ?_) (Ev.now _)
    rw [if_pos a0]
    by_cases e : B s = []
    · rw [if_pos ((empty_iff s).2 e), e]; rfl
    · rw [if_neg (fun h => e ((empty_iff s).1 h)), show (B s == []) = false from beq_eq_false_iff_ne.2 e]; rfl
  rw [if_neg a0]
  by_cases a1 : a = 1
  · rw [if_pos a1]
    refine Ev.congr (fun k => ?_) (Ev.now _)
    rw [if_neg a0, if_pos a1]
    by_cases e : B s = []
    · rw [if_pos ((empty_iff s).2 e), e]
      by_cases hv : 0 ≤ v
      · rw [if_pos hv, decide_eq_true hv]; rfl
      · rw [if_neg hv, decide_eq_false hv]; rfl
    · rw [if_neg (fun h => e ((empty_iff s).1 h)), show (B s == []) = false from beq_eq_false_iff_ne.2 e]; rfl
  rw [if_neg a1]
  by_cases a2 : a = 2
  · rw [if_pos a2]
    exact Ev.congr (fun k => by rw [if_neg a0, if_neg a1, if_pos a2]) (Ev.now _)
  rw [if_neg a2]
  by_cases a7 : a = 7
  · rw [if_pos a7]
    by_cases hv : v = 0
    · rw [show (v == 0) = true from beq_iff_eq.2 hv, Bool.true_and]
      exact Ev.congr (fun k => by rw [if_neg a0, if_neg a1, if_neg a2, if_pos a7, if_pos hv]) (Ev.bind (among_f s lG0 (by decide)) (Ev.now _))
    · rw [show (v == 0) = false from beq_eq_false_iff_ne.2 hv, Bool.false_and]
      exact Ev.congr (fun k => by rw [if_neg a0, if_neg a1, if_neg a2, if_pos a7, if_neg hv]) (Ev.now _)
  rw [if_neg a7]
  by_cases a5 : a = 5
  · rw [if_pos a5]
    refine Ev.congr (fun k => by rw [if_neg a0, if_neg a1, if_neg a2, if_neg a7, if_pos a5]) ?_
    have jt : Ev (fun k => lex_Right.j0 k true a s v p) false := Ev.step (f := fun _ => some false) (fun k => by simp only [lex_Right.j0]; rw [if_pos trivial]) (Ev.now _)
    have hlen := B_length s
    match hB : B s with
    | [] =>
      rw [hB] at hlen
      exact Ev.congr (fun k => by rw [if_pos (by simp at hlen; omega)]) jt
    | [c] =>
      rw [hB] at hlen
      exact Ev.congr (fun k => by rw [if_pos (by simp at hlen; omega)]) jt
    | c :: e :: r =>
      rw [hB] at hlen
      simp at hlen
      obtain ⟨b0, _, hr, _, _⟩ := cons_at hB
      obtain ⟨b1, _, hr2⟩ := bt_drop (i := 1) hr
      have b1' : bt s 1 = (e : Int) := b1
      by_cases c39 : c = 39
      · refine Ev.congr (f := fun k => lex_Right.j0 k (!lo e) a s v p) (fun k => ?_) ?_
        · rw [if_neg (by omega), if_pos (by omega), b0, if_pos (by omega), if_pos (by omega), b1', low_f]
          rfl
        · rw [tvS, show (c == 39) = true from beq_iff_eq.2 c39, Bool.true_and]
          cases hl : lo e
          · rw [Bool.false_and, Bool.false_and]; exact jt
          · rw [Bool.true_and, ← hr2]
            refine Ev.step (f := fun k => lex_Right.l0 k ((2 : Nat) : Int) a s v p) (fun k => ?_) (lexR_l0 hs a v p s.size 2 (by omega))
            simp only [lex_Right.j0]
            rfl
      · rw [tvS, show (c == 39) = false from beq_eq_false_iff_ne.2 c39]
        simp only [Bool.false_and]
        exact Ev.congr (fun k => by rw [if_neg (by omega), if_pos (by omega), b0, if_neg (by omega)]) jt
  rw [if_neg a5]
  have j4t : Ev (fun k => lex_Right.j4 k true a s v p) false := Ev.step (f := fun _ => some false) (fun k => by simp only [lex_Right.j4]; rw [if_pos trivial]) (Ev.now _)
  have j3 : Ev (fun k => lex_Right.j3 k true a s v p) (wordS (B s) && (v == 0 && wk s == a)) := by
    cases hB : B s with
    | nil =>
      refine Ev.step (fun k => ?_) j4t
      simp only [lex_Right.j3]
      rw [if_pos trivial, if_pos ((empty_iff s).2 hB)]
    | cons c r =>
      obtain ⟨b0, hl, hr, _, _⟩ := cons_at hB
      refine Ev.step (f := fun k => lex_Right.j4 k (!ltr c) a s v p) (fun k => ?_) ?_
      · simp only [lex_Right.j3]
        rw [if_pos trivial, if_neg (fun h => by have := (empty_iff s).1 h; rw [hB] at this; simp at this), if_pos (by omega), b0, low_f, high_f]
        simp only [Option.bind_some]
        unfold ltr
        cases lo c <;> cases hi c <;> rfl
      · rw [wordS]
        cases hc : ltr c
        · rw [Bool.false_and, Bool.false_and]; exact j4t
        · rw [Bool.true_and, ← hr]
          refine Ev.step (f := fun k => lex_Right.l1 k ((1 : Nat) : Int) a s v p) (fun k => ?_) (lexR_l1 hs a v p hl s.size 1 (by omega))
          simp only [lex_Right.j4]
          rfl
  by_cases a3 : a = 3
  · rw [if_pos (show a = 3 ∨ a = 4 ∨ a = 6 from .inl a3)]
    exact Ev.congr (fun k => by rw [if_neg a0, if_neg a1, if_neg a2, if_neg a7, if_neg a5, if_pos a3, show (a == 3) = true from beq_iff_eq.2 a3]) j3
  by_cases a4 : a = 4
  · rw [if_pos (show a = 3 ∨ a = 4 ∨ a = 6 from .inr (.inl a4))]
    exact Ev.congr (fun k => by rw [if_neg a0, if_neg a1, if_neg a2, if_neg a7, if_neg a5, if_neg a3, if_pos a4, show (a == 4) = true from beq_iff_eq.2 a4]) j3
  refine Ev.congr (fun k => by rw [if_neg a0, if_neg a1, if_neg a2, if_neg a7, if_neg a5, if_neg a3, if_neg a4]) ?_
  by_cases a6 : a = 6
  · rw [if_pos (show a = 3 ∨ a = 4 ∨ a = 6 from .inr (.inr a6)), show (a == 6) = true from beq_iff_eq.2 a6]
    exact j3
  · rw [if_neg (show ¬ (a = 3 ∨ a = 4 ∨ a = 6) by omega), show (a == 6) = false from beq_eq_false_iff_ne.2 a6]
    exact Ev.step (f := fun _ => some false) (fun k => by simp only [lex_Right.j3]; rfl) (Ev.now _)
end
theorem wk_in (s : ByteArray) : wk s = 3 ∨ wk s = 4 ∨ wk s = 6 := by
  unfold wk
  split
  · exact .inr (.inl rfl)
  · split
    · exact .inr (.inr rfl)
    · exact .inl rfl
theorem tokS_empty {s : ByteArray} (h : B s = []) : tokS s = none := by
  unfold tokS
  have h0 : hasB lG0 s = false := by
    cases hb : hasB lG0 s with
    | false => rfl
    | true =>
      have := signs_first s (hasB_mem.1 hb)
      rw [h] at this
      simp [sgnF] at this
  rw [if_pos h, h]
  simp [quoS, wordS, tvS, h0]
/-- What the reference asks of a token that is read as itself. -/
def asIs (q : Option (Int × ByteArray × Int)) (a : Int) (s : ByteArray) (v : Int) : Bool := match q with
  | none => false
  | some (x, y, z) => x == a && (decide (B y = B s) && z == v)
theorem zero_beq (v : Int) : ((0 : Int) == v) = (v == 0) := by
  rw [Bool.eq_iff_iff, beq_iff_eq, beq_iff_eq]; omega
theorem asIs_right {a v : Int} {s : ByteArray} (h0 : a ≠ 0) (h1 : a ≠ 1) (h2 : a ≠ 2) : asIs (tokS s) a s v = rightS a s v := by
  unfold rightS
  rw [if_neg h0, if_neg h1, if_neg h2]
  cases hB : B s with
  | nil =>
    have hn : hasB lG0 s = false := by
      cases hb : hasB lG0 s with
      | false => rfl
      | true =>
        have := signs_first s (hasB_mem.1 hb)
        rw [hB] at this
        simp [sgnF] at this
    rw [tokS_empty hB, hn]
    simp [asIs, tvS, wordS]
  | cons c u =>
    by_cases cd : dig c = true
    · have hn := no_sign hB (.inl cd)
      have h39 : c ≠ 39 := by rintro rfl; exact absurd cd (by decide)
      have hl : ltr c = false := by
        cases hl : ltr c with
        | false => rfl
        | true => rw [ltr_not_dig hl] at cd; cases cd
      have ht : tvS (c :: u) = false := by cases u <;> simp [tvS, h39]
      rw [tokS_dig hB cd, hn, ht]
      simp only [wordS, hl, Bool.false_and, Bool.and_false]
      have e : asIs ((numS 0 (c :: u)).map fun v => (1, ⟨#[]⟩, (v : Int))) a s v = false := by
        cases numS 0 (c :: u) with
        | none => rfl
        | some n => simp [asIs, show ((1 : Int) == a) = false from beq_eq_false_iff_ne.2 (fun h => h1 h.symm)]
      rw [e]
      repeat' split
      all_goals rfl
    by_cases cq : c = 34
    · have hn := no_sign hB (.inr (.inl cq))
      subst cq
      have ht : tvS (34 :: u) = false := by cases u <;> simp [tvS]
      rw [tokS_quo hB, hn, ht]
      simp only [wordS, show ltr 34 = false by decide, Bool.false_and, Bool.and_false]
      have e : asIs ((quoS (34 :: u)).map fun o => (2, strOfNums (nI o), 0)) a s v = false := by
        cases quoS (34 :: u) with
        | none => rfl
        | some n => simp [asIs, show ((2 : Int) == a) = false from beq_eq_false_iff_ne.2 (fun h => h2 h.symm)]
      rw [e]
      repeat' split
      all_goals rfl
    by_cases cl : ltr c = true
    · have hn := no_sign hB (.inr (.inr (.inl cl)))
      have h39 : c ≠ 39 := by rintro rfl; exact absurd cl (by decide)
      have ht : tvS (c :: u) = false := by cases u <;> simp [tvS, h39]
      have hw := wk_in s
      rw [tokS_ltr hB cl, hn, ht]
      simp only [wordS, cl, Bool.true_and, Bool.and_false, Bool.false_and]
      by_cases c3 : a = 3 ∨ a = 4 ∨ a = 6
      · rw [if_neg (show ¬ a = 7 by omega), if_neg (show ¬ a = 5 by omega), if_pos c3]
        cases hu : u.all prt
        · rw [if_neg (by simp)]; rfl
        · rw [if_pos rfl]
          simp only [asIs, Bool.true_and]
          rw [zero_beq]
          simp [Bool.and_comm]
      · have e : asIs (if u.all prt = true then some (wk s, s, 0) else none) a s v = false := by
          split
          · simp only [asIs]
            rw [show (wk s == a) = false from beq_eq_false_iff_ne.2 (by rintro rfl; exact c3 hw), Bool.false_and]
          · rfl
        rw [e, if_neg c3]
        repeat' split
        all_goals rfl
    have clf : ltr c = false := by simpa using cl
    by_cases c9 : c = 39
    · have hn := no_sign hB (.inr (.inr (.inr c9)))
      subst c9
      rw [tokS_tv hB, hn]
      simp only [wordS, clf, Bool.false_and, Bool.and_false]
      by_cases c5 : a = 5
      · rw [if_neg (show ¬ a = 7 by omega), if_pos c5]
        cases ht : tvS (39 :: u)
        · rw [if_neg (by simp)]; rfl
        · rw [if_pos rfl]
          simp [asIs, zero_beq, show ((5 : Int) == a) = true from beq_iff_eq.2 c5.symm]
      · have e : asIs (if tvS (39 :: u) = true then some (5, s, 0) else none) a s v = false := by
          split
          · simp only [asIs]
            rw [show ((5 : Int) == a) = false from beq_eq_false_iff_ne.2 (fun h => c5 h.symm), Bool.false_and]
          · rfl
        rw [e, if_neg c5]
        repeat' split
        all_goals rfl
    · have ht : tvS (c :: u) = false := by cases u <;> simp [tvS, c9]
      rw [tokS_else hB (by simpa using cd) cq clf c9, ht]
      simp only [wordS, clf, Bool.false_and]
      by_cases c7 : a = 7
      · rw [if_pos c7]
        cases hh : hasB lG0 s
        · rw [if_neg (by simp), Bool.and_false]; rfl
        · rw [if_pos rfl, Bool.and_true]
          simp [asIs, zero_beq, show ((7 : Int) == a) = true from beq_iff_eq.2 c7.symm]
      · have e : asIs (if hasB lG0 s = true then some (7, s, 0) else none) a s v = false := by
          split
          · simp only [asIs]
            rw [show ((7 : Int) == a) = false from beq_eq_false_iff_ne.2 (fun h => c7 h.symm), Bool.false_and]
          · rfl
        rw [e, if_neg c7]
        repeat' split
        all_goals rfl
/-- A token's text, as it is written. -/
def wrtS (a : Int) (s : ByteArray) (v : Int) : ByteArray := if a = 0 then ⟨#[]⟩ else if a = 1 then M (numN v.toNat) else if a = 2 then M (quoL (B s)) else s
section
variable {s : ByteArray} (hs : s.size ≤ 1000000)
include hs
theorem written_f (a v p : Int) (h : a = 1 → 0 ≤ v ∧ v ≤ 4611686018427387903) : Ev (fun k => kindlingref07_Written.f k a s v p) (wrtS a s v) := by
  unfold kindlingref07_Written.f wrtS
  by_cases a0 : a = 0
  · rw [if_pos a0]; exact Ev.congr (fun k => by rw [if_pos a0]) (Ev.now _)
  rw [if_neg a0]
  by_cases a1 : a = 1
  · rw [if_pos a1]
    obtain ⟨h0, h1⟩ := h a1
    have := refText_f (v := v.toNat) (by omega)
    rw [Int.toNat_of_nonneg h0] at this
    exact Ev.congr (fun k => by rw [if_neg a0, if_pos a1]) (Ev.bind this (Ev.now _))
  rw [if_neg a1]
  by_cases a2 : a = 2
  · rw [if_pos a2]
    exact Ev.congr (fun k => by rw [if_neg a0, if_neg a1, if_pos a2]) (Ev.bind (refQuote_f hs) (Ev.now _))
  · rw [if_neg a2]
    exact Ev.congr (fun k => by rw [if_neg a0, if_neg a1, if_neg a2]) (Ev.now _)
theorem flat_len (l : List Nat) : (l.flatMap qb).length ≤ 4 * l.length := by
  induction l with
  | nil => simp
  | cons c l ih => rw [List.flatMap_cons, List.length_append]; have := (qb_len c).2; rw [List.length_cons]; omega
theorem wrt_size (a v : Int) : (wrtS a s v).size ≤ 4000100 ∨ a = 1 := by
  unfold wrtS
  split
  · left; decide
  · split
    · right; assumption
    · split
      · left
        rw [M_size, quoL, List.length_cons, List.length_append]
        have := flat_len (s := s) hs (B s)
        rw [B_length] at this
        rw [List.length_singleton]; omega
      · left; omega
theorem dN_len : ∀ (f u : Nat) (acc : List Nat), (dN f u acc).length ≤ acc.length + f
  | 0, _, _ => by simp [dN]
  | f + 1, u, acc => by
    rw [dN]
    split
    · simp
    · have := dN_len f (u / 10) ((48 + u % 10) :: acc)
      simp at this; omega
theorem wrt_small (a v : Int) : (wrtS a s v).size ≤ 4000100 := by
  rcases wrt_size hs a v with h | h
  · exact h
  · subst h
    have : (wrtS 1 s v).size = (numN v.toNat).length := by unfold wrtS; rw [if_neg (by decide), if_pos rfl, M_size]
    have h2 := dN_len hs 19 v.toNat []
    unfold numN at this
    simp at h2; omega
theorem refRight_j0 (a v p : Int) (h0 : a ≠ 0) (h : a = 1 → 0 ≤ v ∧ v ≤ 4611686018427387903) : Ev (fun k => kindlingref07_Right.j0 k false a s v p) (asIs (tokS (wrtS a s v)) a s v) := by
  refine Ev.step (f := fun k => (kindlingref07_Written.f k a s v p).bind fun t376 => ((kindlingref07_Token.f k t376).bind fun bt377 => (if bt377.2.2.2.2 = true then (if bt377.1 = a then (if bt377.2.1.toList = s.toList then (some (bt377.2.2.1 == v)) else (some false)) else (some false)) else (some false)))) (fun k => ?_) (Ev.bind (written_f hs a v p h) (Ev.bind (refToken_f (s := wrtS a s v) (by have := wrt_small hs a v; omega)) ?_))
  · simp only [kindlingref07_Right.j0]
    rw [if_neg (by simp)]
  cases tokS (wrtS a s v) with
  | none => exact Ev.congr (fun k => rfl) (Ev.now _)
  | some q =>
    obtain ⟨x, y, z⟩ := q
    refine Ev.congr (fun k => ?_) (Ev.now _)
    show (if x = a then (if y.toList = s.toList then some (z == v) else some false) else some false) = some (x == a && (decide (B y = B s) && z == v))
    by_cases hx : x = a
    · rw [if_pos hx, show (x == a) = true from beq_iff_eq.2 hx]
      by_cases hy : B y = B s
      · rw [if_pos (toList_inj.2 (B_inj hy)), decide_eq_true hy]; rfl
      · rw [if_neg (fun h => hy (by rw [toList_inj.1 h])), decide_eq_false hy]; rfl
    · rw [if_neg hx, show (x == a) = false from beq_eq_false_iff_ne.2 hx]; rfl
theorem refRight_f (a v p : Int) : Ev (fun k => kindlingref07_Right.f k a s v p) (rightS a s v) := by
  unfold kindlingref07_Right.f
  by_cases a0 : a = 0
  · unfold rightS
    rw [if_pos a0]
    refine Ev.congr (fun k => ?_) (Ev.now _)
    rw [if_pos a0]
    by_cases e : B s = []
    · rw [if_pos ((empty_iff s).2 e), e]; rfl
    · rw [if_neg (fun h => e ((empty_iff s).1 h)), show (B s == []) = false from beq_eq_false_iff_ne.2 e]; rfl
  have jt : Ev (fun k => kindlingref07_Right.j0 k true a s v p) false := Ev.step (f := fun _ => some false) (fun k => by simp only [kindlingref07_Right.j0]; rw [if_pos trivial]) (Ev.now _)
  by_cases a1 : a = 1
  · have hr : rightS a s v = (B s == [] && (decide (0 ≤ v) && decide (v ≤ 4611686018427387903))) := by unfold rightS; rw [if_neg a0, if_pos a1]
    by_cases v0 : v < 0
    · rw [hr, decide_eq_false (show ¬ 0 ≤ v by omega), Bool.false_and, Bool.and_false]
      exact Ev.congr (fun k => by rw [if_neg a0, if_pos a1, if_pos v0]) jt
    by_cases v1 : v > 4611686018427387903
    · rw [hr, decide_eq_false (show ¬ v ≤ 4611686018427387903 by omega), Bool.and_false, Bool.and_false]
      exact Ev.congr (fun k => by rw [if_neg a0, if_pos a1, if_neg v0, decide_eq_true v1]) jt
    have h := refRight_j0 hs a v p a0 (fun _ => ⟨by omega, by omega⟩)
    refine Ev.congr (fun k => by rw [if_neg a0, if_pos a1, if_neg v0, decide_eq_false v1]) ?_
    have e : asIs (tokS (wrtS a s v)) a s v = rightS a s v := by
      obtain ⟨c, r, hc, hd⟩ := dN_cons 19 v.toNat [] (by omega)
      have hB : B (M (numN v.toNat)) = c :: r := by rw [B_M (numN_byt _)]; exact hc
      have hw : wrtS a s v = M (numN v.toNat) := by unfold wrtS; rw [if_neg a0, if_pos a1]
      have hn := num_back (v := v.toNat) (by omega)
      rw [show numN v.toNat = c :: r from hc] at hn
      rw [hw, tokS_dig hB hd, hn, hr, decide_eq_true (show 0 ≤ v by omega), decide_eq_true (show v ≤ 4611686018427387903 by omega)]
      change asIs (some (1, ⟨#[]⟩, ((v.toNat : Nat) : Int))) a s v = _
      simp only [asIs, Bool.and_true]
      rw [show ((1 : Int) == a) = true from beq_iff_eq.2 a1.symm, show (((v.toNat : Nat) : Int) == v) = true from beq_iff_eq.2 (by omega), Bool.true_and, Bool.and_true]
      rw [Bool.eq_iff_iff, decide_eq_true_iff, beq_iff_eq]
      exact ⟨fun h => h.symm, fun h => h.symm⟩
    rw [← e]
    exact h
  refine Ev.congr (fun k => by rw [if_neg a0, if_neg a1]) ?_
  have h := refRight_j0 hs a v p a0 (fun hh => absurd hh a1)
  have e : asIs (tokS (wrtS a s v)) a s v = rightS a s v := by
    by_cases a2 : a = 2
    · have hw : wrtS a s v = M (quoL (B s)) := by unfold wrtS; rw [if_neg a0, if_neg a1, if_pos a2]
      have hB : B (M (quoL (B s))) = 34 :: ((B s).flatMap qb ++ [34]) := by rw [B_M (quoL_byt (byt_B s))]; rfl
      have hr : rightS a s v = (v == 0) := by unfold rightS; rw [if_neg a0, if_neg a1, if_pos a2]
      have hq := quo_back (byt_B s)
      rw [quoL] at hq
      rw [hw, tokS_quo hB, hq, hr]
      simp only [Option.map_some, asIs]
      rw [show ((2 : Int) == a) = true from beq_iff_eq.2 a2.symm, zero_beq, decide_eq_true (by rw [nums_M, M_B])]
      rfl
    · have hw : wrtS a s v = s := by unfold wrtS; rw [if_neg a0, if_neg a1, if_neg a2]
      rw [hw]
      exact asIs_right a0 a1 a2
  rw [← e]
  exact h
end
end Go.Proofs.YtnihjlnnllngeaaDoor.Lx
