/- Words, kinds, signs, a text that is a token: the functions in plain words. -/
import Derived.Test.YtnihjlnnllngeaaDoorLxF
import Derived.Test.YtnihjlnnllngeaaDoorFKind
import Derived.Test.YtnihjlnnllngeaaDoorFRWord
import Derived.Test.YtnihjlnnllngeaaDoorFRQuoted
import Derived.Test.YtnihjlnnllngeaaDoorFRToken
namespace Go.Proofs.YtnihjlnnllngeaaDoor.Lx
open Go.RowKit Go.Proofs.YtnihjlnnllngeaaDoorW.PrintWords Go.Proofs.YtnihjlnnllngeaaDoor.PL
set_option linter.unusedVariables false
set_option linter.unusedSimpArgs false
set_option linter.unusedSectionVars false

instance decBA : DecidableEq ByteArray := fun a b => decidable_of_iff (a.data = b.data) ⟨fun h => by cases a; cases b; cases h; rfl, fun h => by rw [h]⟩
/-- A text is one of some. -/
def hasB (L : List ByteArray) (s : ByteArray) : Bool := L.any fun x => decide (x = s)
theorem hasB_mem {L : List ByteArray} {s : ByteArray} : hasB L s = true ↔ s ∈ L := by
  simp [hasB]
theorem hasB_cons (x : ByteArray) (L : List ByteArray) (s : ByteArray) : hasB (x :: L) s = (decide (x = s) || hasB L s) := rfl
theorem rdOf_get {L : List ByteArray} {i : Nat} (h : i < L.length) : rdOf ByteArray.empty L (i : Int) = L[i] := by
  simp [rdOf, List.getD_eq_getElem?_getD, h]
theorem among_all (s : ByteArray) (L : List ByteArray) (hL : L.length ≤ 140737488351232) : ∀ (m i : Nat), L.length - i ≤ m → Ev (fun k => lex_among.l0 k s L (L.length : Int) (i : Int)) (hasB (L.drop i) s) := by
  intro m
  induction m with
  | zero =>
    intro i hm
    refine Ev.step (f := fun _ => some (hasB (L.drop i) s)) (fun k => ?_) (Ev.now _)
    simp only [lex_among.l0]
    rw [if_neg (by omega), List.drop_eq_nil_iff.2 (by omega)]
    rfl
  | succ m ih =>
    intro i hm
    by_cases hi : i < L.length
    case neg => exact ih i (by omega)
    have step : ∀ k, lex_among.l0 (k + 1) s L (L.length : Int) (i : Int) = if L[i] = s then some true else lex_among.l0 k s L (L.length : Int) ((i + 1 : Nat) : Int) := by
      intro k
      simp only [lex_among.l0]
      rw [if_pos (by omega), if_pos (by omega), if_pos (by omega), rdOf_get hi, w64_1 (Nat.le_of_lt hi) hL]
      by_cases e : L[i] = s
      · rw [if_pos (by rw [e]), if_pos e]
      · rw [if_neg (fun h => e (toList_inj.1 h)), if_neg e]
    rw [List.drop_eq_getElem_cons hi]
    by_cases e : L[i] = s
    · refine Ev.step (f := fun _ => some true) (fun k => by rw [step, if_pos e]) ?_
      rw [hasB_cons, decide_eq_true e, Bool.true_or]
      exact Ev.now _
    · refine Ev.step (fun k => by rw [step, if_neg e]) ?_
      rw [hasB_cons, decide_eq_false e, Bool.false_or]
      exact ih (i + 1) (by omega)
theorem among_f (s : ByteArray) (L : List ByteArray) (hL : L.length ≤ 140737488351232) : Ev (fun k => lex_among.f k L s) (hasB L s) := by
  have := among_all s L hL L.length 0 (by omega)
  rw [List.drop_zero] at this
  exact this
theorem has_all (s : ByteArray) (L : List ByteArray) (hL : L.length ≤ 140737488351232) : ∀ (m i : Nat), L.length - i ≤ m → Ev (fun k => kindlingref07_Has.l0 k L s (i : Int)) (hasB (L.drop i) s) := by
  intro m
  induction m with
  | zero =>
    intro i hm
    refine Ev.step (f := fun _ => some (hasB (L.drop i) s)) (fun k => ?_) (Ev.now _)
    simp only [kindlingref07_Has.l0]
    rw [if_neg (by omega), List.drop_eq_nil_iff.2 (by omega)]
    rfl
  | succ m ih =>
    intro i hm
    by_cases hi : i < L.length
    case neg => exact ih i (by omega)
    have step : ∀ k, kindlingref07_Has.l0 (k + 1) L s (i : Int) = if L[i] = s then some true else kindlingref07_Has.l0 k L s ((i + 1 : Nat) : Int) := by
      intro k
      simp only [kindlingref07_Has.l0]
      rw [if_pos (by omega), if_pos (by omega), rdOf_get hi, w64_1 (Nat.le_of_lt hi) hL]
      by_cases e : L[i] = s
      · rw [if_pos (by rw [e]), if_pos e]
      · rw [if_neg (fun h => e (toList_inj.1 h)), if_neg e]
    rw [List.drop_eq_getElem_cons hi]
    by_cases e : L[i] = s
    · refine Ev.step (f := fun _ => some true) (fun k => by rw [step, if_pos e]) ?_
      rw [hasB_cons, decide_eq_true e, Bool.true_or]
      exact Ev.now _
    · refine Ev.step (fun k => by rw [step, if_neg e]) ?_
      rw [hasB_cons, decide_eq_false e, Bool.false_or]
      exact ih (i + 1) (by omega)
theorem has_f (s : ByteArray) (L : List ByteArray) (hL : L.length ≤ 140737488351232) : Ev (fun k => kindlingref07_Has.f k L s) (hasB L s) := by
  have := has_all s L hL L.length 0 (by omega)
  rw [List.drop_zero] at this
  exact this
def ltr (c : Nat) : Bool := lo c || hi c
def wordS : List Nat → Bool
  | [] => false
  | c :: r => ltr c && r.all prt
def tvS : List Nat → Bool
  | c :: e :: r => c == 39 && lo e && r.all (fun x => x != 39 && prt x)
  | _ => false
def capS : List Nat → Bool
  | [] => false
  | c :: r => hi c || c :: r == [116, 114, 117, 101] || c :: r == [102, 97, 108, 115, 101] || c :: r == [110, 105, 108]
/-- A word's kind. -/
def wk (s : ByteArray) : Int := if capS (B s) = true then 4 else if hasB lG1 s = true then 6 else 3
theorem keys_low : ∀ x ∈ lG1, capS (B x) = false := by decide
theorem lG1_len : lG1.length = 26 := rfl
theorem lG0_len2 : lG0.length = 22 := rfl
theorem eq_lit (s : ByteArray) (l : List UInt8) (m : List Nat) (h : l.map (·.toNat) = m) : (s.toList = l) ↔ B s = m := by
  rw [toList_eq_iff, h]
theorem beq_lit (s : ByteArray) (l : List UInt8) (m : List Nat) (h : l.map (·.toNat) = m) : (s.toList == l) = (B s == m) := by
  rw [Bool.eq_iff_iff, beq_iff_eq, beq_iff_eq]
  exact eq_lit s l m h
theorem wordKind_f {s : ByteArray} (h : 0 < s.size) : Ev (fun k => lex_wordKind.f k s) (wk s) := by
  cases hB : B s with
  | nil => have := B_length s; rw [hB] at this; simp at this; omega
  | cons c r =>
    obtain ⟨hb, hl, hr, hsz, hc256⟩ := cons_at hB
    refine Ev.congr (f := fun k => lex_wordKind.j0 k s (capS (B s))) (fun k => ?_) ?_
    · unfold lex_wordKind.f
      rw [if_pos (by omega), hb, high_f, hB]
      simp only [Option.bind_some, eq_lit s [116, 114, 117, 101] [116, 114, 117, 101] rfl, eq_lit s [102, 97, 108, 115, 101] [102, 97, 108, 115, 101] rfl, beq_lit s [110, 105, 108] [110, 105, 108] rfl, hB]
      rw [capS]
      cases h1 : hi c
      · simp only [Bool.false_eq_true, if_false, Bool.false_or]
        by_cases h2 : c :: r = [116, 114, 117, 101]
        · rw [if_pos h2, beq_iff_eq.2 h2]
          rfl
        · rw [if_neg h2, beq_eq_false_iff_ne.2 h2, Bool.false_or]
          by_cases h3 : c :: r = [102, 97, 108, 115, 101]
          · rw [if_pos h3, beq_iff_eq.2 h3]
            rfl
          · rw [if_neg h3, beq_eq_false_iff_ne.2 h3, Bool.false_or]
      · simp
    · unfold wk
      by_cases hc : capS (B s) = true
      · rw [hc, if_pos rfl]
        exact Ev.step (f := fun _ => some 4) (fun k => by simp only [lex_wordKind.j0]; rw [if_pos trivial]) (Ev.now _)
      · rw [if_neg hc]
        refine Ev.step (f := fun k => (lex_among.f k lG1 s).bind fun t106 => (if t106 = true then (some 6) else (some 3))) (fun k => by simp only [lex_wordKind.j0]; rw [if_neg hc]) ?_
        refine Ev.bind (among_f s lG1 (by rw [lG1_len]; omega)) ?_
        by_cases hm : hasB lG1 s = true
        · rw [if_pos hm, hm]
          exact Ev.now _
        · rw [if_neg hm, show hasB _ s = false from by simpa using hm]
          exact Ev.now _
theorem refWordKind_f {s : ByteArray} (h : 0 < s.size) : Ev (fun k => kindlingref07_WordKind.f k s) (wk s) := by
  have hK : kindlingref07_Keys.f = some lG1 := rfl
  cases hB : B s with
  | nil => have := B_length s; rw [hB] at this; simp at this; omega
  | cons c r =>
    obtain ⟨hb, hl, hr, hsz, hc256⟩ := cons_at hB
    have hbt : kindlingref07_between.f (c : Int) 65 90 = some (hi c) := between_f c 65 90
    refine Ev.congr (f := fun k => (kindlingref07_Has.f k lG1 s).bind fun t245 => if t245 = true then some 6 else kindlingref07_WordKind.j0 k (capS (B s))) (fun k => ?_) ?_
    · unfold kindlingref07_WordKind.f
      rw [hK]
      simp only [Option.bind_some]
      congr 1
      funext t
      rw [if_pos (show 0 < (s.size : Int) by omega), hb, hbt, hB]
      simp only [Option.bind_some, eq_lit s [116, 114, 117, 101] [116, 114, 117, 101] rfl, eq_lit s [102, 97, 108, 115, 101] [102, 97, 108, 115, 101] rfl, beq_lit s [110, 105, 108] [110, 105, 108] rfl, hB]
      rw [capS]
      cases h1 : hi c
      · simp only [Bool.false_eq_true, if_false, Bool.false_or]
        by_cases h2 : c :: r = [116, 114, 117, 101]
        · rw [if_pos h2, beq_iff_eq.2 h2]
          rfl
        · rw [if_neg h2, beq_eq_false_iff_ne.2 h2, Bool.false_or]
          by_cases h3 : c :: r = [102, 97, 108, 115, 101]
          · rw [if_pos h3, beq_iff_eq.2 h3]
            rfl
          · rw [if_neg h3, beq_eq_false_iff_ne.2 h3, Bool.false_or]
      · simp
    · refine Ev.bind (has_f s lG1 (by rw [lG1_len]; omega)) ?_
      unfold wk
      cases hm : hasB lG1 s with
      | true =>
        have hk := keys_low s (hasB_mem.1 hm)
        rw [hk]
        exact Ev.now (6 : Int)
      | false =>
        cases hc : capS (B s) with
        | true => exact Ev.step (f := fun _ => some (4 : Int)) (fun k => rfl) (Ev.now _)
        | false => exact Ev.step (f := fun _ => some (3 : Int)) (fun k => rfl) (Ev.now _)
section
variable {s : ByteArray} (hs : s.size ≤ 140737488351232)
include hs
theorem refWord_all : ∀ (m i : Nat), s.size - i ≤ m → Ev (fun k => kindlingref07_Word.l0 k s (i : Int)) (((B s).drop i).all prt) := by
  intro m
  induction m with
  | zero =>
    intro i hm
    have hd : (B s).drop i = [] := List.drop_eq_nil_iff.2 (by rw [B_length]; omega)
    refine Ev.step (f := fun _ => some (((B s).drop i).all prt)) (fun k => ?_) (Ev.now _)
    simp only [kindlingref07_Word.l0]
    rw [if_neg (by omega), hd]
    rfl
  | succ m ih =>
    intro i hm
    by_cases hi : i < s.size
    case neg => exact ih i (by omega)
    obtain ⟨c, r, h⟩ := drop_ex s hi
    obtain ⟨hb, hl, hr⟩ := bt_drop h
    have step : ∀ k, kindlingref07_Word.l0 (k + 1) s (i : Int) = if prt c = true then kindlingref07_Word.l0 k s ((i + 1 : Nat) : Int) else some false := by
      intro k
      simp only [kindlingref07_Word.l0]
      rw [if_pos (by omega), if_pos (by omega), hb, part_f, w64_1 (Nat.le_of_lt hl) hs]
      rfl
    rw [h, List.all_cons]
    by_cases hc : prt c = true
    · rw [hc, Bool.true_and, ← hr]
      exact Ev.step (fun k => by rw [step, if_pos hc]) (ih (i + 1) (by omega))
    · rw [show prt c = false by simpa using hc, Bool.false_and]
      exact Ev.step (f := fun _ => some false) (fun k => by rw [step, if_neg hc]) (Ev.now _)
theorem refWord_f : Ev (fun k => kindlingref07_Word.f k s) (wordS (B s)) := by
  have jt : Ev (fun k => kindlingref07_Word.j0 k s true) false := Ev.step (f := fun _ => some false) (fun k => by simp only [kindlingref07_Word.j0]; rw [if_pos trivial]) (Ev.now _)
  cases hB : B s with
  | nil =>
    have h0 : s.toList = [] := (toList_eq_iff s []).2 hB
    refine Ev.congr (fun k => ?_) jt
    unfold kindlingref07_Word.f
    rw [if_pos h0]
  | cons c r =>
    obtain ⟨hb, hl, hr, hsz, hc256⟩ := cons_at hB
    have h0 : s.toList ≠ [] := fun e => by have := (toList_eq_iff s []).1 e; rw [hB] at this; simp at this
    have h1 : kindlingref07_between.f (c : Int) 97 122 = some (lo c) := between_f c 97 122
    have h2 : kindlingref07_between.f (c : Int) 65 90 = some (hi c) := between_f c 65 90
    refine Ev.congr (f := fun k => kindlingref07_Word.j0 k s (!ltr c)) (fun k => ?_) ?_
    · unfold kindlingref07_Word.f
      rw [if_neg h0, if_pos (by omega), hb, h1, h2]
      simp only [Option.bind_some]
      unfold ltr
      cases lo c <;> cases hi c <;> rfl
    · rw [wordS]
      cases hc : ltr c
      · exact jt
      · rw [Bool.true_and, ← hr]
        exact Ev.step (f := fun k => kindlingref07_Word.l0 k s ((1 : Nat) : Int)) (fun k => rfl) (refWord_all hs s.size 1 (by omega))
theorem refTv_all : ∀ (m i : Nat), s.size - i ≤ m → Ev (fun k => kindlingref07_TypeVar.l0 k s (i : Int)) (((B s).drop i).all (fun x => x != 39 && prt x)) := by
  intro m
  induction m with
  | zero =>
    intro i hm
    have hd : (B s).drop i = [] := List.drop_eq_nil_iff.2 (by rw [B_length]; omega)
    refine Ev.step (f := fun _ => some (((B s).drop i).all (fun x => x != 39 && prt x))) (fun k => ?_) (Ev.now _)
    simp only [kindlingref07_TypeVar.l0]
    rw [if_neg (by omega), hd]
    rfl
  | succ m ih =>
    intro i hm
    by_cases hi : i < s.size
    case neg => exact ih i (by omega)
    obtain ⟨c, r, h⟩ := drop_ex s hi
    obtain ⟨hb, hl, hr⟩ := bt_drop h
    have step : ∀ k, kindlingref07_TypeVar.l0 (k + 1) s (i : Int) = kindlingref07_TypeVar.j2 k s (i : Int) (!(c != 39 && prt c)) := by
      intro k
      simp only [kindlingref07_TypeVar.l0]
      rw [if_pos (by omega), if_pos (by omega), hb, part_f]
      by_cases h39 : c = 39
      · rw [if_pos (by omega), h39]
        rfl
      · rw [if_neg (by omega), bne_iff_ne.2 h39]
        rfl
    have step2 : ∀ k x, kindlingref07_TypeVar.j2 (k + 1) s (i : Int) x = if x = true then some false else kindlingref07_TypeVar.l0 k s ((i + 1 : Nat) : Int) := by
      intro k x
      simp only [kindlingref07_TypeVar.j2]
      rw [w64_1 (Nat.le_of_lt hl) hs]
    rw [h, List.all_cons]
    refine Ev.step step ?_
    cases hc : (c != 39 && prt c)
    · rw [Bool.false_and]
      exact Ev.step (f := fun _ => some false) (fun k => by rw [step2]; rfl) (Ev.now _)
    · rw [Bool.true_and, ← hr]
      exact Ev.step (fun k => by rw [step2]; rfl) (ih (i + 1) (by omega))
theorem refTv_f : Ev (fun k => kindlingref07_TypeVar.f k s) (tvS (B s)) := by
  have jt : Ev (fun k => kindlingref07_TypeVar.j0 k s true) false := Ev.step (f := fun _ => some false) (fun k => by simp only [kindlingref07_TypeVar.j0]; rw [if_pos trivial]) (Ev.now _)
  have hlen := B_length s
  match hB : B s with
  | [] =>
    rw [hB] at hlen
    refine Ev.congr (fun k => ?_) jt
    unfold kindlingref07_TypeVar.f
    rw [if_pos (by simp at hlen; omega)]
  | [_] =>
    rw [hB] at hlen
    refine Ev.congr (fun k => ?_) jt
    unfold kindlingref07_TypeVar.f
    rw [if_pos (by simp at hlen; omega)]
  | c :: e :: r =>
    obtain ⟨hb, hl, hr, hsz, hc256⟩ := cons_at hB
    have he := bt_drop hr
    have hbe : bt s 1 = (e : Int) := he.1
    have h1 : kindlingref07_between.f (e : Int) 97 122 = some (lo e) := between_f e 97 122
    simp at hsz
    refine Ev.congr (f := fun k => kindlingref07_TypeVar.j0 k s (!(c == 39 && lo e))) (fun k => ?_) ?_
    · unfold kindlingref07_TypeVar.f
      rw [if_neg (by omega), if_pos (by omega), hb]
      by_cases h39 : c = 39
      · rw [if_pos (by omega), if_pos (by omega), hbe, h1, h39]
        rfl
      · rw [if_neg (by omega), beq_eq_false_iff_ne.2 h39]
        rfl
    · rw [tvS]
      cases hc : (c == 39 && lo e)
      · exact jt
      · rw [Bool.true_and, ← he.2.2]
        exact Ev.step (f := fun k => kindlingref07_TypeVar.l0 k s ((2 : Nat) : Int)) (fun k => rfl) (refTv_all hs s.size 2 (by omega))
/-- The token that a text is. -/
def tokS (s : ByteArray) : Option (Int × ByteArray × Int) :=
  match (if B s = [] then none else numS 0 (B s)) with
  | some v => some (1, ⟨#[]⟩, (v : Int))
  | none => match quoS (B s) with
    | some o => some (2, strOfNums (nI o), 0)
    | none => if wordS (B s) = true then some (wk s, s, 0) else if tvS (B s) = true then some (5, s, 0) else if hasB lG0 s = true then some (7, s, 0) else none
def tokR (q : Option (Int × ByteArray × Int)) : Int × ByteArray × Int × Int × Bool := match q with
  | none => (0, ⟨#[]⟩, 0, 0, false)
  | some (a, b, c) => (a, b, c, 0, true)
theorem refToken_f : Ev (fun k => kindlingref07_Token.f k s) (tokR (tokS s)) := by
  have hS : kindlingref07_Signs.f = some lG0 := rfl
  unfold kindlingref07_Token.f
  refine Ev.bind (refNumber_f hs) ?_
  unfold tokS
  have hn : numT s 0 0 = match (if B s = [] then none else numS 0 (B s)) with
      | some v => ((v : Int), true)
      | none => ((numT s 0 0).1, false) := by
    unfold numT
    rw [List.drop_zero]
    by_cases h0 : B s = []
    · rw [if_pos h0, h0]
      have : s.toList = [] := (toList_eq_iff s []).2 h0
      simp [numS, this]
    · rw [if_neg h0]
      have : s.toList ≠ [] := fun e => h0 ((toList_eq_iff s []).1 e)
      cases numS 0 (B s) with
      | none => rfl
      | some v => simp [this]
  cases hv : (if B s = [] then none else numS 0 (B s)) with
  | some v =>
    rw [hv] at hn
    rw [hn]
    exact Ev.congr (fun k => by rw [if_pos rfl]; rfl) (Ev.now _)
  | none =>
    rw [hv] at hn
    simp only at hn
    rw [hn]
    obtain ⟨x, hx, hE⟩ := quoted_f hs
    refine Ev.congr (fun k => by rw [if_neg (by simp)]) (Ev.bind hE ?_)
    cases ho : quoS (B s) with
    | some o =>
      rw [hx o ho]
      exact Ev.congr (fun k => rfl) (Ev.now _)
    | none =>
      refine Ev.congr (fun k => by rw [if_neg (by simp)]) (Ev.bind (refWord_f hs) ?_)
      simp only
      by_cases hw : wordS (B s) = true
      · have hz : 0 < s.size := by
          cases hB : B s with
          | nil => rw [hB] at hw; simp [wordS] at hw
          | cons c r => exact (cons_at hB).2.1
        rw [if_pos hw, hw]
        exact Ev.congr (fun k => by rw [if_pos rfl]) (Ev.bind (refWordKind_f hz) (Ev.now _))
      · rw [if_neg hw]
        refine Ev.congr (fun k => by rw [if_neg hw]) (Ev.bind (refTv_f hs) ?_)
        by_cases ht : tvS (B s) = true
        · rw [if_pos ht]
          exact Ev.congr (fun k => by rw [if_pos ht]; rfl) (Ev.now _)
        · rw [if_neg ht]
          refine Ev.congr (f := fun k => (kindlingref07_Has.f k lG0 s).bind fun t263 => (if t263 = true then (some (7, s, 0, 0, true)) else (some (0, (⟨#[]⟩ : ByteArray), 0, 0, false)))) (fun k => by rw [if_neg ht, hS]; rfl) ?_
          refine Ev.bind (has_f s lG0 (by rw [lG0_len2]; omega)) ?_
          by_cases hm : hasB lG0 s = true
          · rw [if_pos hm, hm]
            exact Ev.now _
          · rw [if_neg hm, show hasB _ s = false from by simpa using hm]
            exact Ev.now _
end
end Go.Proofs.YtnihjlnnllngeaaDoor.Lx
