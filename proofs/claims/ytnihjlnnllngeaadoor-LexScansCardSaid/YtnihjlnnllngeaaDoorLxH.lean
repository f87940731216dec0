/- The token that a text begins with: the reference's longest one. -/
import Derived.Test.YtnihjlnnllngeaaDoorLxG
import Derived.Test.YtnihjlnnllngeaaDoorF0
import Derived.Test.YtnihjlnnllngeaaDoorFRToken
import Derived.Test.YtnihjlnnllngeaaDoorFRLong

namespace Go.Proofs.YtnihjlnnllngeaaDoor.Lx
open Go.RowKit Go.Proofs.YtnihjlnnllngeaaDoorW.PrintWords Go.Proofs.YtnihjlnnllngeaaDoor.PL
set_option linter.unusedVariables false
set_option linter.unusedSimpArgs false
set_option linter.unusedSectionVars false

def isPre (q x : ByteArray) : Bool := decide (q.extract 0 x.size = x)
def tvc (x : Nat) : Bool := x != 39 && prt x
/-- The token that a text begins with: its kind, text, number, how long it is. -/
def lexS (q : ByteArray) : Option (Int × ByteArray × Int × Nat) := match B q with
  | [] => none
  | c :: r =>
    if dig c = true then (numS 0 ((c :: r).takeWhile dig)).map fun v => (1, ⟨#[]⟩, (v : Int), ((c :: r).takeWhile dig).length)
    else if c = 34 then (qt r).map fun o => (2, strOfNums (nI o.1), 0, 1 + o.2)
    else if ltr c = true then some (wk (q.extract 0 (1 + (r.takeWhile prt).length)), q.extract 0 (1 + (r.takeWhile prt).length), 0, 1 + (r.takeWhile prt).length)
    else if c = 39 ∧ (r.head?.map lo) = some true then some (5, q.extract 0 (2 + (r.tail.takeWhile tvc).length), 0, 2 + (r.tail.takeWhile tvc).length)
    else (lG0.find? (isPre q)).map fun x => (7, x, 0, x.size)
def lngR (o : Option (Int × ByteArray × Int × Nat)) : Int × ByteArray × Int × Int × Int := match o with
  | none => (0, ⟨#[]⟩, 0, 0, 0)
  | some (a, b, c, n) => (a, b, c, 0, (n : Int))
def sgnF (l : List Nat) : Bool := match l with
  | [] => false
  | c :: _ => !dig c && c != 34 && !ltr c && c != 39
theorem signs_first : ∀ x ∈ lG0, sgnF (B x) = true := by decide
theorem signs_fall : lG0.Pairwise (fun a b => b.size ≤ a.size) := by decide
theorem B_pre (q : ByteArray) (n : Nat) : B (q.extract 0 n) = (B q).take n := by
  rw [B_extract, List.drop_zero, Nat.sub_zero]
theorem size_pre {q : ByteArray} {n : Nat} (h : n ≤ q.size) : (q.extract 0 n).size = n := by
  rw [← B_length, B_pre, List.length_take, B_length]; omega
theorem ltr_not_dig {c : Nat} (h : ltr c = true) : dig c = false := by
  simp [ltr, lo, hi, dig, rng] at h ⊢; omega
theorem ltr_iff {c : Nat} : ltr c = true ↔ (97 ≤ c ∧ c ≤ 122) ∨ (65 ≤ c ∧ c ≤ 90) := by
  simp [ltr, lo, hi, rng]
theorem no_sign {t : ByteArray} {c : Nat} {u : List Nat} (h : B t = c :: u) (hc : dig c = true ∨ c = 34 ∨ ltr c = true ∨ c = 39) : hasB lG0 t = false := by
  cases hb : hasB lG0 t with
  | false => rfl
  | true =>
    have := signs_first t (hasB_mem.1 hb)
    rw [h, sgnF] at this
    simp at this
    rcases hc with e | e | e | e
    · rw [e] at this; simp at this
    · exact absurd e this.1.1.2
    · rw [e] at this; simp at this
    · exact absurd e this.2
theorem numS_nodig {c : Nat} {u : List Nat} {n : Nat} (h : dig c = false) : numS n (c :: u) = none := by
  rw [numS, if_neg (by rw [h]; simp)]
theorem tokS_dig {t : ByteArray} {c : Nat} {u : List Nat} (h : B t = c :: u) (hc : dig c = true) : tokS t = (numS 0 (c :: u)).map fun v => (1, ⟨#[]⟩, (v : Int)) := by
  have hd := dig_iff.1 hc
  unfold tokS
  rw [h, if_neg (by simp)]
  cases hn : numS 0 (c :: u) with
  | some v => rfl
  | none =>
    have h1 : quoS (c :: u) = none := by rw [quoS, if_neg (by omega)]
    have h2 : wordS (c :: u) = false := by
      rw [wordS]
      have : ltr c = false := by cases hl : ltr c with
        | false => rfl
        | true => have := ltr_iff.1 hl; omega
      rw [this]; rfl
    have h3 : tvS (c :: u) = false := by
      cases u with
      | nil => rfl
      | cons e r => rw [tvS, beq_eq_false_iff_ne.2 (by omega)]; rfl
    have h4 := no_sign h (.inl hc)
    simp [h1, h2, h3, h4]
theorem tokS_quo {t : ByteArray} {u : List Nat} (h : B t = 34 :: u) : tokS t = (quoS (34 :: u)).map fun o => (2, strOfNums (nI o), 0) := by
  unfold tokS
  rw [h, if_neg (by simp), numS_nodig (by decide)]
  cases hn : quoS (34 :: u) with
  | some o => rfl
  | none =>
    have h2 : wordS (34 :: u) = false := rfl
    have h3 : tvS (34 :: u) = false := by cases u <;> rfl
    have h4 := no_sign h (.inr (.inl rfl))
    simp [h2, h3, h4]
theorem tokS_ltr {t : ByteArray} {c : Nat} {u : List Nat} (h : B t = c :: u) (hc : ltr c = true) : tokS t = if u.all prt = true then some (wk t, t, 0) else none := by
  have hl := ltr_iff.1 hc
  unfold tokS
  rw [h, if_neg (by simp), numS_nodig (ltr_not_dig hc)]
  have h1 : quoS (c :: u) = none := by rw [quoS, if_neg (by omega)]
  have h2 : wordS (c :: u) = u.all prt := by rw [wordS, hc]; rfl
  have h3 : tvS (c :: u) = false := by
    cases u with
    | nil => rfl
    | cons e r => rw [tvS, beq_eq_false_iff_ne.2 (by omega)]; rfl
  have h4 := no_sign h (.inr (.inr (.inl hc)))
  simp [h1, h2, h3, h4]
theorem tokS_tv {t : ByteArray} {u : List Nat} (h : B t = 39 :: u) : tokS t = if tvS (39 :: u) = true then some (5, t, 0) else none := by
  unfold tokS
  rw [h, if_neg (by simp), numS_nodig (by decide)]
  have h1 : quoS (39 :: u) = none := by rw [quoS, if_neg (by decide)]
  have h2 : wordS (39 :: u) = false := rfl
  have h4 := no_sign h (.inr (.inr (.inr rfl)))
  simp [h1, h2, h4]
theorem tokS_else {t : ByteArray} {c : Nat} {u : List Nat} (h : B t = c :: u) (h1 : dig c = false) (h2 : c ≠ 34) (h3 : ltr c = false) (h5 : c ≠ 39) : tokS t = if hasB lG0 t = true then some (7, t, 0) else none := by
  unfold tokS
  rw [h, if_neg (by simp), numS_nodig h1]
  have g1 : quoS (c :: u) = none := by rw [quoS, if_neg h2]
  have g2 : wordS (c :: u) = false := by rw [wordS, h3]; rfl
  have g3 : tvS (c :: u) = false := by
    cases u with
    | nil => rfl
    | cons e r => rw [tvS, beq_eq_false_iff_ne.2 h5]; rfl
  simp [g1, g2, g3]
theorem escS_ext {l x : List Nat} {q : Nat × Nat} (h : escS l = some q) : escS (l ++ x) = some q := by
  cases l with
  | nil => simp [escS] at h
  | cons c r =>
    rw [List.cons_append, escS]
    rw [escS] at h
    split at h
    · rename_i h1; rw [if_pos h1]; exact h
    · rename_i h1
      rw [if_neg h1]
      split at h
      · rename_i h2; rw [if_pos h2]; exact h
      · rename_i h2
        rw [if_neg h2]
        split at h
        · rename_i h3; rw [if_pos h3]; exact h
        · rename_i h3
          rw [if_neg h3]
          split at h
          · rename_i h4
            rw [if_pos h4]
            match r, h with
            | [], h => simp [hx2] at h
            | [_], h => simp [hx2] at h
            | a :: b :: u, h => exact h
          · simp at h
theorem sgnS_ext {l x : List Nat} {q : Nat × Nat} (h : sgnS l = some q) : sgnS (l ++ x) = some q := by
  cases l with
  | nil => simp [sgnS] at h
  | cons c r =>
    rw [List.cons_append, sgnS]
    rw [sgnS] at h
    split at h
    · simp at h
    · rename_i h1
      rw [if_neg h1]
      split at h
      · rename_i h2
        rw [if_pos h2]
        obtain ⟨p, hp, he⟩ := Option.map_eq_some_iff.1 h
        rw [escS_ext hp, Option.map_some, he]
      · rename_i h2
        rw [if_neg h2]
        exact h
theorem qt_ext : ∀ (m : Nat) (l x : List Nat) (q : List Nat × Nat), l.length ≤ m → qt l = some q → qt (l ++ x) = some q ∧ 1 ≤ q.2 ∧ q.2 ≤ l.length := by
  intro m
  induction m with
  | zero =>
    intro l x q hl h
    have : l = [] := List.length_eq_zero_iff.1 (by omega)
    rw [this, qt] at h
    simp at h
  | succ m ih =>
    intro l x q hl h
    cases l with
    | nil => rw [qt] at h; simp at h
    | cons c r =>
      rw [qt_cons] at h
      rw [List.cons_append, qt_cons]
      split at h
      · rename_i h1
        rw [if_pos h1]
        cases h
        simp
      · rename_i h1
        rw [if_neg h1]
        cases hg : sgnS (c :: r) with
        | none => rw [hg] at h; simp at h
        | some p =>
          obtain ⟨b, n⟩ := p
          rw [hg] at h
          simp only at h
          obtain ⟨p, hp, he⟩ := Option.map_eq_some_iff.1 h
          have hpos := sgnS_pos hg
          have hle := sgnS_le hg
          simp at hle hl
          obtain ⟨i1, i2, i3⟩ := ih (r.drop (n - 1)) x p (by rw [List.length_drop]; omega) hp
          have e1 : sgnS (c :: (r ++ x)) = some (b, n) := by rw [← List.cons_append]; exact sgnS_ext hg
          rw [e1]
          simp only
          rw [List.drop_append_of_le_length (by omega), i1, Option.map_some, he]
          refine ⟨rfl, ?_, ?_⟩
          · rw [← he]; simp; omega
          · rw [← he]
            rw [List.length_drop] at i3
            simp; omega
theorem qt_le {l : List Nat} {q : List Nat × Nat} (h : qt l = some q) : 1 ≤ q.2 ∧ q.2 ≤ l.length := (qt_ext l.length l [] q (Nat.le_refl _) h).2
theorem qt_app {l x : List Nat} {q : List Nat × Nat} (h : qt l = some q) : qt (l ++ x) = some q := (qt_ext l.length l x q (Nat.le_refl _) h).1
theorem escS_take {l : List Nat} {b n : Nat} (h : escS l = some (b, n)) : escS (l.take n) = some (b, n) := by
  cases l with
  | nil => simp [escS] at h
  | cons c r =>
    rw [escS] at h
    split at h
    · rename_i h1
      cases h
      show escS [b] = _
      rw [escS, if_pos h1]
    · rename_i h1
      split at h
      · rename_i h2
        cases h
        show escS [c] = _
        rw [escS, if_neg h1, if_pos h2]
      · rename_i h2
        split at h
        · rename_i h3
          cases h
          show escS [c] = _
          rw [escS, if_neg h1, if_neg h2, if_pos h3]
        · rename_i h3
          split at h
          · rename_i h4
            match r, h with
            | [], h => simp [hx2] at h
            | [_], h => simp [hx2] at h
            | x :: y :: u, h =>
              have h0 := h
              rw [hx2] at h
              obtain ⟨a, ha, h⟩ := Option.bind_eq_some_iff.1 h
              obtain ⟨b', hb', h⟩ := Option.map_eq_some_iff.1 h
              cases h
              show escS [c, x, y] = _
              rw [escS, if_neg h1, if_neg h2, if_neg h3, if_pos h4]
              exact h0
          · simp at h
theorem sgnS_take {l : List Nat} {b n : Nat} (h : sgnS l = some (b, n)) : sgnS (l.take n) = some (b, n) := by
  cases l with
  | nil => simp [sgnS] at h
  | cons c r =>
    rw [sgnS] at h
    split at h
    · simp at h
    · rename_i h1
      split at h
      · rename_i h2
        obtain ⟨p, hp, he⟩ := Option.map_eq_some_iff.1 h
        cases he
        rw [List.take_succ_cons, sgnS, if_neg h1, if_pos h2, escS_take (b := p.1) (n := p.2) hp]
        rfl
      · rename_i h2
        cases h
        show sgnS [b] = _
        rw [sgnS, if_neg h1, if_neg h2]
theorem qt_take : ∀ (m : Nat) (l : List Nat) (o : List Nat) (n : Nat), l.length ≤ m → qt l = some (o, n) → qt (l.take n) = some (o, n) := by
  intro m
  induction m with
  | zero =>
    intro l o n hl h
    have : l = [] := List.length_eq_zero_iff.1 (by omega)
    rw [this, qt] at h
    simp at h
  | succ m ih =>
    intro l o n hl h
    cases l with
    | nil => rw [qt] at h; simp at h
    | cons c r =>
      rw [qt_cons] at h
      split at h
      · rename_i h1
        cases h
        show qt [c] = _
        rw [qt_cons, if_pos h1]
      · rename_i h1
        cases hg : sgnS (c :: r) with
        | none => rw [hg] at h; simp at h
        | some p =>
          obtain ⟨b, n'⟩ := p
          rw [hg] at h
          simp only at h
          obtain ⟨p, hp, he⟩ := Option.map_eq_some_iff.1 h
          have hpos := sgnS_pos hg
          have hle := sgnS_le hg
          simp at hle hl
          have hi := ih (r.drop (n' - 1)) p.1 p.2 (by rw [List.length_drop]; omega) hp
          cases he
          have e0 : (c :: r).take (p.2 + n') = c :: r.take (p.2 + n' - 1) := by
            obtain ⟨z, hz⟩ : ∃ z, p.2 + n' = z + 1 := ⟨p.2 + n' - 1, by omega⟩
            rw [hz]; rfl
          have e1 : sgnS (c :: r.take (p.2 + n' - 1)) = some (b, n') := by
            rw [← e0, Nat.add_comm, List.take_add]
            exact sgnS_ext (sgnS_take hg)
          have e2 : (r.take (p.2 + n' - 1)).drop (n' - 1) = (r.drop (n' - 1)).take p.2 := by
            rw [List.drop_take]
            congr 1
            omega
          rw [e0, qt_cons, if_neg h1, e1]
          simp only
          rw [e2, hi]
          rfl
theorem take_while {p : Nat → Bool} : ∀ (l : List Nat) (j : Nat), j ≤ l.length → ((l.take j).all p = true ↔ j ≤ (l.takeWhile p).length)
  | [], j, h => by simp at h; subst h; simp
  | c :: r, 0, h => by simp
  | c :: r, j + 1, h => by
    rw [List.take_succ_cons, List.all_cons, List.takeWhile_cons]
    simp at h
    have := take_while (p := p) r j h
    cases hc : p c
    · simp
    · simp only [Bool.true_and, this, if_true, List.length_cons]
      omega
section
variable {q : ByteArray} (hq : q.size ≤ 140737488351232)
include hq
theorem long_step {n : Nat} (hn : n + 1 ≤ q.size) : ∀ R, (match tokS (q.extract 0 (n + 1)) with
      | some (a, b, c) => R = (a, b, c, 0, ((n + 1 : Nat) : Int))
      | none => Ev (fun k => kindlingref07_Longest.l0 k q (n : Int)) R) → Ev (fun k => kindlingref07_Longest.l0 k q ((n + 1 : Nat) : Int)) R := by
  intro R h
  have step : ∀ k, kindlingref07_Longest.l0 (k + 1) q ((n + 1 : Nat) : Int) = (kindlingref07_Token.f k (q.extract 0 (n + 1))).bind fun bt273 => (if bt273.2.2.2.2 = true then (some (bt273.1, bt273.2.1, bt273.2.2.1, bt273.2.2.2.1, ((n + 1 : Nat) : Int))) else (kindlingref07_Longest.l0 k q (n : Int))) := by
    intro k
    simp only [kindlingref07_Longest.l0]
    rw [if_pos (by omega), if_pos (by omega), if_pos (by omega), w64 (x := ((n + 1 : Nat) : Int) - 1) (by omega) (by omega), Int.toNat_natCast, show ((n + 1 : Nat) : Int) - 1 = (n : Int) by omega]
  refine Ev.step step (Ev.bind (refToken_f (s := q.extract 0 (n + 1)) (by rw [size_pre hn]; omega)) ?_)
  cases ht : tokS (q.extract 0 (n + 1)) with
  | some p =>
    obtain ⟨a, b, c⟩ := p
    rw [ht] at h
    simp only at h
    rw [h]
    exact Ev.congr (fun k => rfl) (Ev.now _)
  | none =>
    rw [ht] at h
    exact Ev.congr (fun k => rfl) h
theorem long_down {m : Nat} {R : Int × ByteArray × Int × Int × Int} (h : Ev (fun k => kindlingref07_Longest.l0 k q (m : Int)) R) : ∀ d, m + d ≤ q.size → (∀ j, m < j → j ≤ m + d → tokS (q.extract 0 j) = none) → Ev (fun k => kindlingref07_Longest.l0 k q ((m + d : Nat) : Int)) R := by
  intro d
  induction d with
  | zero => intro _ _; exact h
  | succ d ih =>
    intro hd hj
    refine long_step hq (n := m + d) (by omega) R ?_
    rw [hj (m + d + 1) (by omega) (by omega)]
    exact ih (by omega) (fun j a b => hj j a (by omega))
theorem long_zero : Ev (fun k => kindlingref07_Longest.l0 k q ((0 : Nat) : Int)) (lngR none) := by
  refine Ev.step (f := fun _ => some (lngR none)) (fun k => ?_) (Ev.now _)
  simp only [kindlingref07_Longest.l0]
  rw [if_neg (by omega)]
  rfl
/-- All that is longer is no token. -/
theorem long_all {o : Option (Int × ByteArray × Int × Nat)} (h : match o with
      | none => ∀ j, 0 < j → j ≤ q.size → tokS (q.extract 0 j) = none
      | some (a, b, c, n) => 0 < n ∧ n ≤ q.size ∧ tokS (q.extract 0 n) = some (a, b, c) ∧ ∀ j, n < j → j ≤ q.size → tokS (q.extract 0 j) = none) :
    Ev (fun k => kindlingref07_Longest.l0 k q (q.size : Int)) (lngR o) := by
  cases o with
  | none =>
    have := long_down hq (m := 0) (long_zero hq) q.size (by omega) (fun j a b => h j a (by omega))
    rwa [Nat.zero_add] at this
  | some p =>
    obtain ⟨a, b, c, n⟩ := p
    obtain ⟨h1, h2, h3, h4⟩ := h
    obtain ⟨n, rfl⟩ : ∃ z, n = z + 1 := ⟨n - 1, by omega⟩
    have h0 : Ev (fun k => kindlingref07_Longest.l0 k q ((n + 1 : Nat) : Int)) (lngR (some (a, b, c, n + 1))) := by
      refine long_step hq h2 _ ?_
      rw [h3]
      rfl
    have := long_down hq h0 (q.size - (n + 1)) (by omega) (fun j a b => h4 j a (by omega))
    rwa [show n + 1 + (q.size - (n + 1)) = q.size by omega] at this
theorem longest_f : Ev (fun k => kindlingref07_Longest.f k q) (lngR (lexS q)) := by
  have hd := digits_f hq
  have hlen := B_length q
  unfold kindlingref07_Longest.f
  refine Ev.bind hd ?_
  unfold lexS
  cases hB : B q with
  | nil =>
    refine Ev.congr (fun k => by rw [if_neg (by simp)]) ?_
    exact long_all hq (o := none) (fun j a b => by rw [hB] at hlen; simp at hlen; omega)
  | cons c r =>
    rw [hB] at hlen
    simp at hlen
    have hpre : ∀ j, 0 < j → B (q.extract 0 j) = c :: r.take (j - 1) := by
      intro j hj
      obtain ⟨z, rfl⟩ : ∃ z, j = z + 1 := ⟨j - 1, by omega⟩
      rw [B_pre, hB]
      rfl
    simp only
    by_cases h1 : dig c = true
    · rw [if_pos h1]
      have e1 : (c :: r).takeWhile dig = c :: r.takeWhile dig := by rw [List.takeWhile_cons, if_pos h1]
      have hle : (r.takeWhile dig).length ≤ r.length := List.Sublist.length_le (List.takeWhile_sublist _)
      rw [e1, List.length_cons]
      have hp := hpre ((r.takeWhile dig).length + 1) (by omega)
      have e2 : r.take ((r.takeWhile dig).length) = r.takeWhile dig := (List.prefix_iff_eq_take.1 (List.takeWhile_prefix dig)).symm
      rw [Nat.add_sub_cancel, e2] at hp
      refine Ev.congr (f := fun k => (kindlingref07_Token.f k (q.extract 0 ((r.takeWhile dig).length + 1))).bind fun bt267 => (if bt267.2.2.2.2 = true then (some (bt267.1, bt267.2.1, bt267.2.2.1, bt267.2.2.2.1, (((r.takeWhile dig).length + 1 : Nat) : Int))) else (some (0, (⟨#[]⟩ : ByteArray), 0, 0, 0)))) (fun k => by rw [if_pos (by omega), if_pos (by omega), if_pos (by omega), Int.toNat_natCast]) ?_
      refine Ev.bind (refToken_f (by rw [size_pre (by omega)]; omega)) ?_
      rw [tokS_dig hp h1]
      cases numS 0 (c :: r.takeWhile dig) with
      | none => exact Ev.congr (fun k => rfl) (Ev.now _)
      | some v => exact Ev.congr (fun k => rfl) (Ev.now _)
    have hd1 : dig c = false := by simpa using h1
    rw [if_neg h1]
    refine Ev.congr (fun k => by rw [List.takeWhile_cons, if_neg h1, if_neg (by simp)]) (long_all hq ?_)
    by_cases h2 : c = 34
    · rw [if_pos h2]
      subst h2
      have hno : ∀ j, 0 < j → j ≤ q.size → (∀ o, qt r ≠ some (o, j - 1)) → tokS (q.extract 0 j) = none := by
        intro j hj hj2 hn
        rw [tokS_quo (hpre j hj), quoS, if_pos rfl]
        cases hqt : qt (r.take (j - 1)) with
        | none => rfl
        | some p =>
          obtain ⟨o, m⟩ := p
          simp only
          have hl : (r.take (j - 1)).length = j - 1 := by rw [List.length_take]; omega
          by_cases hm : m = (r.take (j - 1)).length
          · have := qt_app (x := r.drop (j - 1)) hqt
            rw [List.take_append_drop, hm, hl] at this
            exact absurd this (hn o)
          · rw [if_neg hm]
            rfl
      cases hqt : qt r with
      | none =>
        exact fun j a b => hno j a b (fun o => by rw [hqt]; simp)
      | some p =>
        obtain ⟨o, m⟩ := p
        have hle := qt_le hqt
        simp only at hle
        refine ⟨by simp only; omega, by simp only; omega, ?_, fun j a b => hno j (by simp only at a; omega) b (fun o' => by rw [hqt]; simp only at a; intro e; cases e; omega)⟩
        have hp := hpre (1 + m) (by omega)
        rw [show 1 + m - 1 = m by omega] at hp
        simp only
        rw [tokS_quo hp, quoS, if_pos rfl, qt_take _ r o m (Nat.le_refl _) hqt]
        simp only
        rw [if_pos (by rw [List.length_take]; omega)]
        rfl
    rw [if_neg h2]
    by_cases h3 : ltr c = true
    · rw [if_pos h3]
      have hle : (r.takeWhile prt).length ≤ r.length := List.Sublist.length_le (List.takeWhile_sublist _)
      refine ⟨by omega, by omega, ?_, fun j a b => ?_⟩
      · rw [tokS_ltr (hpre _ (by omega)) h3, if_pos ((take_while r _ (by omega)).2 (by omega))]
      · rw [tokS_ltr (hpre _ (by omega)) h3, if_neg (fun e => by have := (take_while r _ (by omega)).1 e; omega)]
    rw [if_neg h3]
    have h3' : ltr c = false := by simpa using h3
    have hsign : ∀ j, 0 < j → j ≤ q.size → c ≠ 39 → tokS (q.extract 0 j) = if hasB lG0 (q.extract 0 j) = true then some (7, q.extract 0 j, 0) else none := fun j a b h => tokS_else (hpre j a) hd1 h2 h3' h
    by_cases h4 : c = 39 ∧ r.head?.map lo = some true
    · rw [if_pos h4]
      obtain ⟨h39, he⟩ := h4
      subst h39
      cases r with
      | nil => simp at he
      | cons e u =>
        simp at he hlen
        have hle : (u.takeWhile tvc).length ≤ u.length := List.Sublist.length_le (List.takeWhile_sublist _)
        simp only [List.tail_cons]
        have hp2 : ∀ j, 2 ≤ j → B (q.extract 0 j) = 39 :: e :: u.take (j - 2) := by
          intro j hj
          rw [hpre j (by omega)]
          obtain ⟨z, hz⟩ : ∃ z, j = z + 2 := ⟨j - 2, by omega⟩
          subst hz
          rfl
        have ht : ∀ j, 2 ≤ j → tvS (39 :: e :: u.take (j - 2)) = (u.take (j - 2)).all tvc := by
          intro j hj
          rw [tvS, he]
          rfl
        refine ⟨by omega, by omega, ?_, fun j a b => ?_⟩
        · rw [tokS_tv (hp2 _ (by omega)), ht _ (by omega), if_pos ((take_while u _ (by omega)).2 (by omega))]
        · rw [tokS_tv (hp2 _ (by omega)), ht _ (by omega), if_neg (fun e => by have := (take_while u _ (by omega)).1 e; omega)]
    rw [if_neg h4]
    by_cases h5 : c = 39
    · subst h5
      have hf : lG0.find? (isPre q) = none := by
        rw [List.find?_eq_none]
        intro x hx hp
        have e : q.extract 0 x.size = x := of_decide_eq_true hp
        have hs := signs_first x hx
        have hx0 : 0 < x.size := by
          cases hb : B x with
          | nil => rw [hb] at hs; simp [sgnF] at hs
          | cons _ _ => have := B_length x; rw [hb] at this; simp at this; omega
        rw [← e, hpre _ hx0, sgnF] at hs
        simp at hs
      rw [hf]
      intro j a b
      rw [tokS_tv (hpre j a)]
      have : tvS (39 :: r.take (j - 1)) = false := by
        cases r with
        | nil => rw [List.take_nil]; rfl
        | cons e u =>
          cases hj : j - 1 with
          | zero => rfl
          | succ z =>
            rw [List.take_succ_cons, tvS]
            have : lo e = false := by
              cases hl : lo e with
              | false => rfl
              | true => exact absurd ⟨rfl, by simp [hl]⟩ h4
            rw [this]
            rfl
      rw [this]
      rfl
    · cases hf : lG0.find? (isPre q) with
      | none =>
        rw [List.find?_eq_none] at hf
        intro j a b
        rw [hsign j a b h5, if_neg]
        intro e
        have hm := hasB_mem.1 e
        refine hf _ hm (decide_eq_true ?_)
        rw [size_pre b]
      | some x =>
        obtain ⟨hp, xs, ys, hl, hno⟩ := List.find?_eq_some_iff_append.1 hf
        have e : q.extract 0 x.size = x := of_decide_eq_true hp
        have hx : x ∈ lG0 := by rw [hl]; simp
        have hs := signs_first x hx
        have hx0 : 0 < x.size := by
          cases hb : B x with
          | nil => rw [hb] at hs; simp [sgnF] at hs
          | cons _ _ => have := B_length x; rw [hb] at this; simp at this; omega
        have hxs : x.size ≤ q.size := by
          have h6 := congrArg (fun z => (B z).length) e
          simp only [B_pre, List.length_take, B_length] at h6
          omega
        refine ⟨hx0, hxs, ?_, fun j a b => ?_⟩
        · rw [hsign _ hx0 hxs h5, e, if_pos (hasB_mem.2 hx)]
        · rw [hsign j (by omega) b h5, if_neg]
          intro h7
          have hm := hasB_mem.1 h7
          have hpy : isPre q (q.extract 0 j) = true := decide_eq_true (by rw [size_pre b])
          have hfall := signs_fall
          rw [hl] at hm hfall
          rcases List.mem_append.1 hm with h8 | h8
          · have := hno _ h8
            rw [hpy] at this
            simp at this
          · rcases List.mem_cons.1 h8 with h9 | h9
            · have := congrArg ByteArray.size h9
              rw [size_pre b] at this
              omega
            · have := (List.pairwise_cons.1 (List.pairwise_append.1 hfall).2.1).1 _ h9
              rw [size_pre b] at this
              omega
end
end Go.Proofs.YtnihjlnnllngeaaDoor.Lx
