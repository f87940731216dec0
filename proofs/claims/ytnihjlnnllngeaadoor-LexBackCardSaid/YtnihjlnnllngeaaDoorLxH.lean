/- The token that a text begins with: the reference's longest one. -/
import Derived.Test.YtnihjlnnllngeaaDoorLxG
import Derived.Test.YtnihjlnnllngeaaDoorF0

namespace Go.Proofs.YtnihjlnnllngeaaDoor.Lx
open Go.RowKit Go.Proofs.YtnihjlnnllngeaaDoorW.PrintWords Go.Proofs.YtnihjlnnllngeaaDoor.PL
set_option linter.unusedVariables false
set_option linter.unusedSimpArgs false
set_option linter.unusedSectionVars false

def isPre (q x : ByteArray) : Bool := decide (q.extract 0 x.size = x)
def tvc (x : Nat) : Bool := x != 39 && prt x
/-- The token that a text begins with: its kind, text, number, how long it is. -/
def lexS (q : ByteArray) : Option (Int × ByteArray × Int × Nat) := match B q with
  | [] => none
  | c :: r =>
    if dig c = true then (numS 0 ((c :: r).takeWhile dig)).map fun v => (1, ⟨#[]⟩, (v : Int), ((c :: r).takeWhile dig).length)
    else if c = 34 then (qt r).map fun o => (2, strOfNums (nI o.1), 0, 1 + o.2)
    else if ltr c = true then some (wk (q.extract 0 (1 + (r.takeWhile prt).length)), q.extract 0 (1 + (r.takeWhile prt).length), 0, 1 + (r.takeWhile prt).length)
    else if c = 39 ∧ (r.head?.map lo) = some true then some (5, q.extract 0 (2 + (r.tail.takeWhile tvc).length), 0, 2 + (r.tail.takeWhile tvc).length)
    else (lG0.find? (isPre q)).map fun x => (7, x, 0, x.size)
def sgnF (l : List Nat) : Bool := match l with
  | [] => false
  | c :: _ => !dig c && c != 34 && !ltr c && c != 39
theorem signs_first : ∀ x ∈ lG0, sgnF (B x) = true := by decide
theorem B_pre (q : ByteArray) (n : Nat) : B (q.extract 0 n) = (B q).take n := by
  rw [B_extract, List.drop_zero, Nat.sub_zero]
theorem size_pre {q : ByteArray} {n : Nat} (h : n ≤ q.size) : (q.extract 0 n).size = n := by
  rw [← B_length, B_pre, List.length_take, B_length]; omega
theorem ltr_not_dig {c : Nat} (h : ltr c = true) : dig c = false := by
  simp [ltr, lo, hi, dig, rng] at h ⊢; omega
theorem ltr_iff {c : Nat} : ltr c = true ↔ (97 ≤ c ∧ c ≤ 122) ∨ (65 ≤ c ∧ c ≤ 90) := by
  simp [ltr, lo, hi, rng]
theorem no_sign {t : ByteArray} {c : Nat} {u : List Nat} (h : B t = c :: u) (hc : dig c = true ∨ c = 34 ∨ ltr c = true ∨ c = 39) : hasB lG0 t = false := by
  cases hb : hasB lG0 t with
  | false => rfl
  | true =>
    have := signs_first t (hasB_mem.1 hb)
    rw [h, sgnF] at this
    simp at this
    rcases hc with e | e | e | e
    · rw [e] at this; simp at this
    · exact absurd e this.1.1.2
    · rw [e] at this; simp at this
    · exact absurd e this.2
theorem numS_nodig {c : Nat} {u : List Nat} {n : Nat} (h : dig c = false) : numS n (c :: u) = none := by
  rw [numS, if_neg (by rw [h]; simp)]
theorem tokS_dig {t : ByteArray} {c : Nat} {u : List Nat} (h : B t = c :: u) (hc : dig c = true) : tokS t = (numS 0 (c :: u)).map fun v => (1, ⟨#[]⟩, (v : Int)) := by
  have hd := dig_iff.1 hc
  unfold tokS
  rw [h, if_neg (by simp)]
  cases hn : numS 0 (c :: u) with
  | some v => rfl
  | none =>
    have h1 : quoS (c :: u) = none := by rw [quoS, if_neg (by omega)]
    have h2 : wordS (c :: u) = false := by
      rw [wordS]
      have : ltr c = false := by cases hl : ltr c with
        | false => rfl
        | true => have := ltr_iff.1 hl; omega
      rw [this]; rfl
    have h3 : tvS (c :: u) = false := by
      cases u with
      | nil => rfl
      | cons e r => rw [tvS, beq_eq_false_iff_ne.2 (by omega)]; rfl
    have h4 := no_sign h (.inl hc)
    simp [h1, h2, h3, h4]
theorem tokS_quo {t : ByteArray} {u : List Nat} (h : B t = 34 :: u) : tokS t = (quoS (34 :: u)).map fun o => (2, strOfNums (nI o), 0) := by
  unfold tokS
  rw [h, if_neg (by simp), numS_nodig (by decide)]
  cases hn : quoS (34 :: u) with
  | some o => rfl
  | none =>
    have h2 : wordS (34 :: u) = false := rfl
    have h3 : tvS (34 :: u) = false := by cases u <;> rfl
    have h4 := no_sign h (.inr (.inl rfl))
    simp [h2, h3, h4]
theorem tokS_ltr {t : ByteArray} {c : Nat} {u : List Nat} (h : B t = c :: u) (hc : ltr c = true) : tokS t = if u.all prt = true then some (wk t, t, 0) else none := by
  have hl := ltr_iff.1 hc
  unfold tokS
  rw [h, if_neg (by simp), numS_nodig (ltr_not_dig hc)]
  have h1 : quoS (c :: u) = none := by rw [quoS, if_neg (by omega)]
  have h2 : wordS (c :: u) = u.all prt := by rw [wordS, hc]; rfl
  have h3 : tvS (c :: u) = false := by
    cases u with
    | nil => rfl
    | cons e r => rw [tvS, beq_eq_false_iff_ne.2 (by omega)]; rfl
  have h4 := no_sign h (.inr (.inr (.inl hc)))
  simp [h1, h2, h3, h4]
theorem tokS_tv {t : ByteArray} {u : List Nat} (h : B t = 39 :: u) : tokS t = if tvS (39 :: u) = true then some (5, t, 0) else none := by
  unfold tokS
  rw [h, if_neg (by simp), numS_nodig (by decide)]
  have h1 : quoS (39 :: u) = none := by rw [quoS, if_neg (by decide)]
  have h2 : wordS (39 :: u) = false := rfl
  have h4 := no_sign h (.inr (.inr (.inr rfl)))
  simp [h1, h2, h4]
theorem tokS_else {t : ByteArray} {c : Nat} {u : List Nat} (h : B t = c :: u) (h1 : dig c = false) (h2 : c ≠ 34) (h3 : ltr c = false) (h5 : c ≠ 39) : tokS t = if hasB lG0 t = true then some (7, t, 0) else none := by
  unfold tokS
  rw [h, if_neg (by simp), numS_nodig h1]
  have g1 : quoS (c :: u) = none := by rw [quoS, if_neg h2]
  have g2 : wordS (c :: u) = false := by rw [wordS, h3]; rfl
  have g3 : tvS (c :: u) = false := by
    cases u with
    | nil => rfl
    | cons e r => rw [tvS, beq_eq_false_iff_ne.2 h5]; rfl
  simp [g1, g2, g3]
theorem escS_ext {l x : List Nat} {q : Nat × Nat} (h : escS l = some q) : escS (l ++ x) = some q := by
  cases l with
  | nil => simp [escS] at h
  | cons c r =>
    rw [List.cons_append, escS]
    rw [escS] at h
    split at h
    · rename_i h1; rw [if_pos h1]; exact h
    · rename_i h1
      rw [if_neg h1]
      split at h
      · rename_i h2; rw [if_pos h2]; exact h
      · rename_i h2
        rw [if_neg h2]
        split at h
        · rename_i h3; rw [if_pos h3]; exact h
        · rename_i h3
          rw [if_neg h3]
          split at h
          · rename_i h4
            rw [if_pos h4]
            match r, h with
            | [], h => simp [hx2] at h
            | [_], h => simp [hx2] at h
            | a :: b :: u, h => exact h
          · simp at h
theorem sgnS_ext {l x : List Nat} {q : Nat × Nat} (h : sgnS l = some q) : sgnS (l ++ x) = some q := by
  cases l with
  | nil => simp [sgnS] at h
  | cons c r =>
    rw [List.cons_append, sgnS]
    rw [sgnS] at h
    split at h
    · simp at h
    · rename_i h1
      rw [if_neg h1]
      split at h
      · rename_i h2
        rw [if_pos h2]
        obtain ⟨p, hp, he⟩ := Option.map_eq_some_iff.1 h
        rw [escS_ext hp, Option.map_some, he]
      · rename_i h2
        rw [if_neg h2]
        exact h
theorem qt_ext : ∀ (m : Nat) (l x : List Nat) (q : List Nat × Nat), l.length ≤ m → qt l = some q → qt (l ++ x) = some q ∧ 1 ≤ q.2 ∧ q.2 ≤ l.length := by
  intro m
  induction m with
  | zero =>
    intro l x q hl h
    have : l = [] := List.length_eq_zero_iff.1 (by omega)
    rw [this, qt] at h
    simp at h
  | succ m ih =>
    intro l x q hl h
    cases l with
    | nil => rw [qt] at h; simp at h
    | cons c r =>
      rw [qt_cons] at h
      rw [List.cons_append, qt_cons]
      split at h
      · rename_i h1
        rw [if_pos h1]
        cases h
        simp
      · rename_i h1
        rw [if_neg h1]
        cases hg : sgnS (c :: r) with
        | none => rw [hg] at h; simp at h
        | some p =>
          obtain ⟨b, n⟩ := p
          rw [hg] at h
          simp only at h
          obtain ⟨p, hp, he⟩ := Option.map_eq_some_iff.1 h
          have hpos := sgnS_pos hg
          have hle := sgnS_le hg
          simp at hle hl
          obtain ⟨i1, i2, i3⟩ := ih (r.drop (n - 1)) x p (by rw [List.length_drop]; omega) hp
          have e1 : sgnS (c :: (r ++ x)) = some (b, n) := by rw [← List.cons_append]; exact sgnS_ext hg
          rw [e1]
          simp only
          rw [List.drop_append_of_le_length (by omega), i1, Option.map_some, he]
          refine ⟨rfl, ?_, ?_⟩
          · rw [← he]; simp; omega
          · rw [← he]
            rw [List.length_drop] at i3
            simp; omega
theorem qt_le {l : List Nat} {q : List Nat × Nat} (h : qt l = some q) : 1 ≤ q.2 ∧ q.2 ≤ l.length := (qt_ext l.length l [] q (Nat.le_refl _) h).2
theorem qt_app {l x : List Nat} {q : List Nat × Nat} (h : qt l = some q) : qt (l ++ x) = some q := (qt_ext l.length l x q (Nat.le_refl _) h).1
theorem escS_take {l : List Nat} {b n : Nat} (h : escS l = some (b, n)) : escS (l.take n) = some (b, n) := by
  cases l with
  | nil => simp [escS] at h
  | cons c r =>
    rw [escS] at h
    split at h
    · rename_i h1
      cases h
      show escS [b] = _
      rw [escS, if_pos h1]
    · rename_i h1
      split at h
      · rename_i h2
        cases h
        show escS [c] = _
        rw [escS, if_neg h1, if_pos h2]
      · rename_i h2
        split at h
        · rename_i h3
          cases h
          show escS [c] = _
          rw [escS, if_neg h1, if_neg h2, if_pos h3]
        · rename_i h3
          split at h
          · rename_i h4
            match r, h with
            | [], h => simp [hx2] at h
            | [_], h => simp [hx2] at h
            | x :: y :: u, h =>
              have h0 := h
              rw [hx2] at h
              obtain ⟨a, ha, h⟩ := Option.bind_eq_some_iff.1 h
              obtain ⟨b', hb', h⟩ := Option.map_eq_some_iff.1 h
              cases h
              show escS [c, x, y] = _
              rw [escS, if_neg h1, if_neg h2, if_neg h3, if_pos h4]
              exact h0
          · simp at h
theorem sgnS_take {l : List Nat} {b n : Nat} (h : sgnS l = some (b, n)) : sgnS (l.take n) = some (b, n) := by
  cases l with
  | nil => simp [sgnS] at h
  | cons c r =>
    rw [sgnS] at h
    split at h
    · simp at h
    · rename_i h1
      split at h
      · rename_i h2
        obtain ⟨p, hp, he⟩ := Option.map_eq_some_iff.1 h
        cases he
        rw [List.take_succ_cons, sgnS, if_neg h1, if_pos h2, escS_take (b := p.1) (n := p.2) hp]
        rfl
      · rename_i h2
        cases h
        show sgnS [b] = _
        rw [sgnS, if_neg h1, if_neg h2]
theorem qt_take : ∀ (m : Nat) (l : List Nat) (o : List Nat) (n : Nat), l.length ≤ m → qt l = some (o, n) → qt (l.take n) = some (o, n) := by
  intro m
  induction m with
  | zero =>
    intro l o n hl h
    have : l = [] := List.length_eq_zero_iff.1 (by omega)
    rw [this, qt] at h
    simp at h
  | succ m ih =>
    intro l o n hl h
    cases l with
    | nil => rw [qt] at h; simp at h
    | cons c r =>
      rw [qt_cons] at h
      split at h
      · rename_i h1
        cases h
        show qt [c] = _
        rw [qt_cons, if_pos h1]
      · rename_i h1
        cases hg : sgnS (c :: r) with
        | none => rw [hg] at h; simp at h
        | some p =>
          obtain ⟨b, n'⟩ := p
          rw [hg] at h
          simp only at h
          obtain ⟨p, hp, he⟩ := Option.map_eq_some_iff.1 h
          have hpos := sgnS_pos hg
          have hle := sgnS_le hg
          simp at hle hl
          have hi := ih (r.drop (n' - 1)) p.1 p.2 (by rw [List.length_drop]; omega) hp
          cases he
          have e0 : (c :: r).take (p.2 + n') = c :: r.take (p.2 + n' - 1) := by
            obtain ⟨z, hz⟩ : ∃ z, p.2 + n' = z + 1 := ⟨p.2 + n' - 1, by omega⟩
            rw [hz]; rfl
          have e1 : sgnS (c :: r.take (p.2 + n' - 1)) = some (b, n') := by
            rw [← e0, Nat.add_comm, List.take_add]
            exact sgnS_ext (sgnS_take hg)
          have e2 : (r.take (p.2 + n' - 1)).drop (n' - 1) = (r.drop (n' - 1)).take p.2 := by
            rw [List.drop_take]
            congr 1
            omega
          rw [e0, qt_cons, if_neg h1, e1]
          simp only
          rw [e2, hi]
          rfl
section
variable {q : ByteArray} (hq : q.size ≤ 140737488351232)
include hq
end
end Go.Proofs.YtnihjlnnllngeaaDoor.Lx
