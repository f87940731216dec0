/- The token that a text begins with: the reference's longest one. -/
import Derived.Test.YtnihjlnnllngeaaDoorLxG
import Derived.Test.YtnihjlnnllngeaaDoorF0

namespace Go.Proofs.YtnihjlnnllngeaaDoor.Lx
open Go.RowKit Go.Proofs.YtnihjlnnllngeaaDoorW.PrintWords Go.Proofs.YtnihjlnnllngeaaDoor.PL
set_option linter.unusedVariables false
set_option linter.unusedSimpArgs false
set_option linter.unusedSectionVars false

def isPre (q x : ByteArray) : Bool := decide (q.extract 0 x.size = x)
def tvc (x : Nat) : Bool := x != 39 && prt x
/-- The token that a text begins with: its kind, text, number, how long it is. -/
def lexS (q : ByteArray) : Option (Int × ByteArray × Int × Nat) := match B q with
  | [] => none
  | c :: r =>
    if dig c = true then (numS 0 ((c :: r).takeWhile dig)).map fun v => (1, ⟨#[]⟩, (v : Int), ((c :: r).takeWhile dig).length)
    else if c = 34 then (qt r).map fun o => (2, strOfNums (nI o.1), 0, 1 + o.2)
    else if ltr c = true then some (wk (q.extract 0 (1 + (r.takeWhile prt).length)), q.extract 0 (1 + (r.takeWhile prt).length), 0, 1 + (r.takeWhile prt).length)
    else if c = 39 ∧ (r.head?.map lo) = some true then some (5, q.extract 0 (2 + (r.tail.takeWhile tvc).length), 0, 2 + (r.tail.takeWhile tvc).length)
    else (lG0.find? (isPre q)).map fun x => (7, x, 0, x.size)
def sgnF (l : List Nat) : Bool := match l with
  | [] => false
  | c :: _ => !dig c && c != 34 && !ltr c && c != 39
theorem signs_first : ∀ x ∈ lG0, sgnF (B x) = true := by decide
theorem ltr_not_dig {c : Nat} (h : ltr c = true) : dig c = false := by
  simp [ltr, lo, hi, dig, rng] at h ⊢; omega
theorem ltr_iff {c : Nat} : ltr c = true ↔ (97 ≤ c ∧ c ≤ 122) ∨ (65 ≤ c ∧ c ≤ 90) := by
  simp [ltr, lo, hi, rng]
theorem no_sign {t : ByteArray} {c : Nat} {u : List Nat} (h : B t = c :: u) (hc : dig c = true ∨ c = 34 ∨ ltr c = true ∨ c = 39) : hasB lG0 t = false := by
  cases hb : hasB lG0 t with
  | false => rfl
  | true =>
    have := signs_first t (hasB_mem.1 hb)
    rw [h, sgnF] at this
    simp at this
    rcases hc with e | e | e | e
    · rw [e] at this; simp at this
    · exact absurd e this.1.1.2
    · rw [e] at this; simp at this
    · exact absurd e this.2
theorem numS_nodig {c : Nat} {u : List Nat} {n : Nat} (h : dig c = false) : numS n (c :: u) = none := by
  rw [numS, if_neg (by rw [h]; simp)]
theorem tokS_dig {t : ByteArray} {c : Nat} {u : List Nat} (h : B t = c :: u) (hc : dig c = true) : tokS t = (numS 0 (c :: u)).map fun v => (1, ⟨#[]⟩, (v : Int)) := by
  have hd := dig_iff.1 hc
  unfold tokS
  rw [h, if_neg (by simp)]
  cases hn : numS 0 (c :: u) with
  | some v => rfl
  | none =>
    have h1 : quoS (c :: u) = none := by rw [quoS, if_neg (by omega)]
    have h2 : wordS (c :: u) = false := by
      rw [wordS]
      have : ltr c = false := by cases hl : ltr c with
        | false => rfl
        | true => have := ltr_iff.1 hl; omega
      rw [this]; rfl
    have h3 : tvS (c :: u) = false := by
      cases u with
      | nil => rfl
      | cons e r => rw [tvS, beq_eq_false_iff_ne.2 (by omega)]; rfl
    have h4 := no_sign h (.inl hc)
    simp [h1, h2, h3, h4]
theorem tokS_quo {t : ByteArray} {u : List Nat} (h : B t = 34 :: u) : tokS t = (quoS (34 :: u)).map fun o => (2, strOfNums (nI o), 0) := by
  unfold tokS
  rw [h, if_neg (by simp), numS_nodig (by decide)]
  cases hn : quoS (34 :: u) with
  | some o => rfl
  | none =>
    have h2 : wordS (34 :: u) = false := rfl
    have h3 : tvS (34 :: u) = false := by cases u <;> rfl
    have h4 := no_sign h (.inr (.inl rfl))
    simp [h2, h3, h4]
theorem tokS_ltr {t : ByteArray} {c : Nat} {u : List Nat} (h : B t = c :: u) (hc : ltr c = true) : tokS t = if u.all prt = true then some (wk t, t, 0) else none := by
  have hl := ltr_iff.1 hc
  unfold tokS
  rw [h, if_neg (by simp), numS_nodig (ltr_not_dig hc)]
  have h1 : quoS (c :: u) = none := by rw [quoS, if_neg (by omega)]
  have h2 : wordS (c :: u) = u.all prt := by rw [wordS, hc]; rfl
  have h3 : tvS (c :: u) = false := by
    cases u with
    | nil => rfl
    | cons e r => rw [tvS, beq_eq_false_iff_ne.2 (by omega)]; rfl
  have h4 := no_sign h (.inr (.inr (.inl hc)))
  simp [h1, h2, h3, h4]
theorem tokS_tv {t : ByteArray} {u : List Nat} (h : B t = 39 :: u) : tokS t = if tvS (39 :: u) = true then some (5, t, 0) else none := by
  unfold tokS
  rw [h, if_neg (by simp), numS_nodig (by decide)]
  have h1 : quoS (39 :: u) = none := by rw [quoS, if_neg (by decide)]
  have h2 : wordS (39 :: u) = false := rfl
  have h4 := no_sign h (.inr (.inr (.inr rfl)))
  simp [h1, h2, h4]
theorem tokS_else {t : ByteArray} {c : Nat} {u : List Nat} (h : B t = c :: u) (h1 : dig c = false) (h2 : c ≠ 34) (h3 : ltr c = false) (h5 : c ≠ 39) : tokS t = if hasB lG0 t = true then some (7, t, 0) else none := by
  unfold tokS
  rw [h, if_neg (by simp), numS_nodig h1]
  have g1 : quoS (c :: u) = none := by rw [quoS, if_neg h2]
  have g2 : wordS (c :: u) = false := by rw [wordS, h3]; rfl
  have g3 : tvS (c :: u) = false := by
    cases u with
    | nil => rfl
    | cons e r => rw [tvS, beq_eq_false_iff_ne.2 h5]; rfl
  simp [g1, g2, g3]
section
variable {q : ByteArray} (hq : q.size ≤ 140737488351232)
include hq
end
end Go.Proofs.YtnihjlnnllngeaaDoor.Lx
