/- Texts in quotes and numbers as texts: there and back; the reference's writing of both. -/
import Derived.Test.YtnihjlnnllngeaaDoorLxT
import Derived.Test.YtnihjlnnllngeaaDoorFRWritten
namespace Go.Proofs.YtnihjlnnllngeaaDoor.Lx
open Go.RowKit Go.Proofs.YtnihjlnnllngeaaDoorW.PrintWords Go.Proofs.YtnihjlnnllngeaaDoor.PL
set_option linter.unusedVariables false
set_option linter.unusedSimpArgs false
set_option linter.unusedSectionVars false
/-- A hex digit as a byte. -/
def hxd (n : Nat) : Nat := if n < 10 then 48 + n else 55 + n
/-- A byte as it is written in quotes. -/
def qb (c : Nat) : List Nat := if c = 34 ∨ c = 92 then [92, c] else if c = 10 then [92, 110] else if c = 9 then [92, 116] else if c < 32 ∨ c > 126 then [92, 120, hxd (c / 16), hxd (c % 16)] else [c]
def quoL (l : List Nat) : List Nat := 34 :: (l.flatMap qb ++ [34])
theorem hexd_hxd {n : Nat} (h : n < 16) : hexd (hxd n) = some n := by
  have : ∀ m : Fin 16, hexd (hxd m.val) = some m.val := by decide
  exact this ⟨n, h⟩
theorem hxd_lt {n : Nat} (h : n < 16) : hxd n < 256 := by
  unfold hxd; split <;> omega
theorem sgn_qb {c : Nat} (h : c < 256) (r : List Nat) : sgnS (qb c ++ r) = some (c, (qb c).length) := by
  unfold qb
  by_cases c1 : c = 34 ∨ c = 92
  · rw [if_pos c1]
    simp [sgnS, escS, c1]
  rw [if_neg c1]
  by_cases c2 : c = 10
  · rw [if_pos c2]; subst c2; simp [sgnS, escS]
  rw [if_neg c2]
  by_cases c3 : c = 9
  · rw [if_pos c3]; subst c3; simp [sgnS, escS]
  rw [if_neg c3]
  by_cases c4 : c < 32 ∨ c > 126
  · rw [if_pos c4]
    have h1 : hexd (hxd (c / 16)) = some (c / 16) := hexd_hxd (by omega)
    have h2 : hexd (hxd (c % 16)) = some (c % 16) := hexd_hxd (by omega)
    simp [sgnS, escS, hx2, h1, h2]
    omega
  · rw [if_neg c4]
    have h1 : ¬ (c < 32 ∨ c > 126 ∨ c = 34) := by omega
    have h2 : c ≠ 92 := by omega
    rw [List.singleton_append, sgnS, if_neg h1, if_neg h2]
    rfl
theorem qb_head (c : Nat) : ∃ d t, qb c = d :: t ∧ d ≠ 34 := by
  unfold qb
  split
  · exact ⟨_, _, rfl, by decide⟩
  · rename_i h
    split
    · exact ⟨_, _, rfl, by decide⟩
    · split
      · exact ⟨_, _, rfl, by decide⟩
      · split
        · exact ⟨_, _, rfl, by decide⟩
        · exact ⟨_, _, rfl, by omega⟩
theorem qb_byt {c : Nat} (h : c < 256) : Byt (qb c) := by
  have h1 := hxd_lt (n := c / 16) (by omega)
  have h2 := hxd_lt (n := c % 16) (by omega)
  intro x hx
  unfold qb at hx
  split at hx
  · simp at hx; omega
  · split at hx
    · simp at hx; omega
    · split at hx
      · simp at hx; omega
      · split at hx
        · simp at hx; omega
        · simp at hx; omega
theorem qb_len (c : Nat) : 1 ≤ (qb c).length ∧ (qb c).length ≤ 4 := by
  unfold qb
  repeat' split
  all_goals simp
theorem flat_byt {l : List Nat} (h : Byt l) : Byt (l.flatMap qb) := by
  intro x hx
  obtain ⟨c, hc, hx⟩ := List.mem_flatMap.1 hx
  exact qb_byt (h c hc) x hx
theorem quoL_byt {l : List Nat} (h : Byt l) : Byt (quoL l) := by
  intro x hx
  rcases List.mem_cons.1 hx with rfl | hx
  · omega
  · rcases List.mem_append.1 hx with hx | hx
    · exact flat_byt h x hx
    · simp at hx; omega
theorem qt_flat {r : List Nat} : ∀ {l : List Nat}, Byt l → qt (l.flatMap qb ++ 34 :: r) = some (l, (l.flatMap qb).length + 1)
  | [], _ => by rw [List.flatMap_nil, List.nil_append, qt_cons, if_pos rfl]; rfl
  | c :: l, h => by
    have hc := h c (by simp)
    have ih := qt_flat (r := r) (l := l) (fun x hx => h x (by simp [hx]))
    obtain ⟨d, t, e, hd⟩ := qb_head c
    rw [List.flatMap_cons, List.append_assoc]
    have hs := sgn_qb hc (l.flatMap qb ++ 34 :: r)
    rw [e] at hs ⊢
    rw [List.cons_append] at hs ⊢
    rw [qt_cons, if_neg hd, hs]
    simp only [List.length_cons, Nat.add_sub_cancel]
    rw [List.drop_left, ih]
    simp
    omega
theorem quo_back {l : List Nat} (h : Byt l) : quoS (quoL l) = some l := by
  unfold quoL
  rw [quoS, if_pos rfl, qt_flat (r := []) h]
  simp
/-- The digits of a number, in front of some. -/
def dN : Nat → Nat → List Nat → List Nat
  | 0, _, acc => acc
  | f + 1, u, acc => if u / 10 = 0 then (48 + u % 10) :: acc else dN f (u / 10) ((48 + u % 10) :: acc)
def numN (v : Nat) : List Nat := dN 19 v []
theorem dN_num : ∀ (f u : Nat) (acc : List Nat), u < 10 ^ f → 1 ≤ f → u ≤ 4611686018427387903 → numS 0 (dN f u acc) = numS u acc
  | 0, _, _, _, h, _ => by omega
  | f + 1, u, acc, hu, _, hm => by
    have hd : dig (48 + u % 10) = true := dig_iff.2 (by omega)
    have hs : 48 + u % 10 - 48 = u % 10 := by omega
    rw [dN]
    by_cases c : u / 10 = 0
    · rw [if_pos c, numS, hs, if_pos ⟨hd, by omega⟩]
      congr 1; omega
    · rw [if_neg c]
      have hf : 1 ≤ f := by
        cases f with
        | zero => simp at hu; omega
        | succ f => omega
      rw [dN_num f (u / 10) _ (by rw [Nat.pow_succ] at hu; omega) hf (by omega), numS, hs, if_pos ⟨hd, by omega⟩]
      congr 1; omega
theorem dN_cons : ∀ (f u : Nat) (acc : List Nat), 1 ≤ f → ∃ c r, dN f u acc = c :: r ∧ dig c = true
  | 0, _, _, h => by omega
  | f + 1, u, acc, _ => by
    rw [dN]
    by_cases c : u / 10 = 0
    · rw [if_pos c]; exact ⟨_, _, rfl, dig_iff.2 (by omega)⟩
    · rw [if_neg c]
      cases f with
      | zero => exact ⟨_, _, rfl, dig_iff.2 (by omega)⟩
      | succ f => exact dN_cons (f + 1) _ _ (by omega)
theorem dN_dig : ∀ (f u : Nat) (acc : List Nat), (∀ x ∈ acc, dig x = true) → ∀ x ∈ dN f u acc, dig x = true
  | 0, _, _, h => h
  | f + 1, u, acc, h => by
    have h2 : ∀ x ∈ (48 + u % 10) :: acc, dig x = true := by
      intro x hx
      rcases List.mem_cons.1 hx with rfl | hx
      · exact dig_iff.2 (by omega)
      · exact h x hx
    rw [dN]
    split
    · exact h2
    · exact dN_dig f _ _ h2
theorem num_back {v : Nat} (h : v ≤ 4611686018427387903) : numS 0 (numN v) = some v := by
  unfold numN
  rw [dN_num 19 v [] (by omega) (by omega) h, numS]
theorem numN_dig (v : Nat) : ∀ x ∈ numN v, dig x = true := dN_dig 19 v [] (by simp)
theorem numN_byt (v : Nat) : Byt (numN v) := fun x hx => by have := dig_iff.1 (numN_dig v x hx); omega
theorem M_app (a b : List Nat) : M (a ++ b) = M a ++ M b := by
  unfold M
  rw [List.map_append]
  apply ByteArray.ext
  simp
theorem M_size (l : List Nat) : (M l).size = l.length := by simp [M, ByteArray.size]
theorem nums_one (n : Nat) : strOfNums [(n : Int)] = M [n] := rfl
theorem nums_M (l : List Nat) : strOfNums (nI l) = M l := by
  unfold strOfNums M nI
  rw [List.map_map]
  rfl
theorem text_all2 (x0 : Nat) : ∀ (f u : Nat) (acc : List Nat), 1 ≤ f → u < 10 ^ f → u ≤ 4611686018427387903 → acc.length + f ≤ 20 →
    Ev (fun k => kindlingref01_Text.j1 k (x0 : Int) (M acc) (u : Int) true) (M (dN f u acc))
  | 0, _, _, h, _, _, _ => by omega
  | f + 1, u, acc, _, hu, hm, hl => by
    have e : strOfNums [((wrap64 (48 + (Int.tmod (u : Int) 10))) % 256)] = M [48 + u % 10] := by
      rw [Int.tmod_eq_emod_of_nonneg (by omega), w64 (by omega) (by omega), ← nums_one]
      congr 2
      omega
    have st : ∀ k, kindlingref01_Text.j1 (k + 1) (x0 : Int) (M acc) (u : Int) true = kindlingref01_Text.l0 k (x0 : Int) (M ((48 + u % 10) :: acc)) ((u / 10 : Nat) : Int) := by
      intro k
      simp only [kindlingref01_Text.j1]
      rw [if_pos trivial, if_neg (by rw [Int.tmod_eq_emod_of_nonneg (by omega)]; omega)]
      simp only [Option.bind_some]
      rw [e, if_pos (by rw [M_size, M_size]; simp; omega), ← M_app, Int.tdiv_eq_ediv_of_nonneg (by omega), w64 (by omega) (by omega)]
      rfl
    refine Ev.step st ?_
    rw [dN]
    by_cases c : u / 10 = 0
    · rw [if_pos c, c]
      refine Ev.step (f := fun k => kindlingref01_Text.j1 k (x0 : Int) (M ((48 + u % 10) :: acc)) ((0 : Nat) : Int) false) (fun k => ?_) (Ev.step (f := fun _ => some (M ((48 + u % 10) :: acc))) (fun k => ?_) (Ev.now _))
      · simp only [kindlingref01_Text.l0]
        rw [if_pos (by rfl)]
        congr 1
        rw [beq_eq_false_iff_ne]
        intro h
        have := (toList_eq_iff _ _).1 h
        have h2 := congrArg List.length this
        rw [B_length, M_size] at h2
        simp at h2
      · simp only [kindlingref01_Text.j1]
        rw [if_neg (by simp), if_neg (by omega)]
    · rw [if_neg c]
      have hf : 1 ≤ f := by
        cases f with
        | zero => simp at hu; omega
        | succ f => omega
      refine Ev.step (fun k => ?_) (text_all2 x0 f (u / 10) _ hf (by rw [Nat.pow_succ] at hu; omega) (by omega) (by simp; omega))
      simp only [kindlingref01_Text.l0]
      rw [if_neg (by omega)]
theorem refText_f {v : Nat} (h : v ≤ 4611686018427387903) : Ev (fun k => kindlingref01_Text.f k (v : Int)) (M (numN v)) := by
  have h1 := text_all2 v 19 v [] (by omega) (by omega) h (by simp)
  refine Ev.step (f := fun k => kindlingref01_Text.j1 k (v : Int) (M []) (v : Int) true) (fun k => ?_) h1
  unfold kindlingref01_Text.f
  simp only [kindlingref01_Text.l0]
  by_cases c : (v : Int) = 0
  · rw [if_pos c, show ((⟨#[]⟩ : ByteArray).toList == ([] : List UInt8)) = true from beq_iff_eq.2 ((toList_eq_iff _ _).2 rfl)]
    rfl
  · rw [if_neg c]; rfl
theorem tab_hex {n : Nat} (h : n < 16) : bt (⟨#[48, 49, 50, 51, 52, 53, 54, 55, 56, 57, 65, 66, 67, 68, 69, 70]⟩ : ByteArray) (n : Int) = (hxd n : Nat) := by
  have : ∀ m : Fin 16, bt (⟨#[48, 49, 50, 51, 52, 53, 54, 55, 56, 57, 65, 66, 67, 68, 69, 70]⟩ : ByteArray) (m.val : Int) = (hxd m.val : Nat) := by decide
  exact this ⟨n, h⟩
section
variable {s : ByteArray} (hs : s.size ≤ 1000000)
include hs
theorem refQuote_all : ∀ (m i : Nat) (acc : List Int), s.size - i ≤ m → i ≤ s.size → acc.length ≤ 1 + 4 * i → Ev (fun k => kindlingref07_Quote.l0 k s acc (i : Int)) (strOfNums (acc ++ nI (((B s).drop i).flatMap qb ++ [34]))) := by
  intro m
  induction m with
  | zero =>
    intro i acc hm hi ha
    have hd : (B s).drop i = [] := List.drop_eq_nil_iff.2 (by rw [B_length]; omega)
    refine Ev.step (f := fun _ => some (strOfNums (acc ++ [34]))) (fun k => ?_) (by rw [hd]; exact Ev.now _)
    simp only [kindlingref07_Quote.l0]
    rw [if_neg (by omega), if_pos (by omega)]
  | succ m ih =>
    intro i acc hm hi ha
    by_cases hl : i < s.size
    case neg => exact ih i acc (by omega) hi ha
    obtain ⟨c, r, h⟩ := drop_ex s hl
    obtain ⟨hb, _, hr⟩ := bt_drop h
    have hc : c < 256 := at_n h
    have hw : wrap64 ((i : Int) + 1) = ((i + 1 : Nat) : Int) := w64_1 hi (by omega)
    have fwd : ∀ ys : List Int, ys = nI (qb c) → Ev (fun k => kindlingref07_Quote.l0 k s (acc ++ ys) ((i + 1 : Nat) : Int)) (strOfNums (acc ++ nI (((B s).drop i).flatMap qb ++ [34]))) := by
      rintro ys rfl
      have := ih (i + 1) (acc ++ nI (qb c)) (by omega) (by omega) (by have := (qb_len c).2; simp [nI]; omega)
      rw [hr] at this
      rw [h, List.flatMap_cons]
      simpa [nI, List.append_assoc] using this
    have j1 : Ev (fun k => kindlingref07_Quote.j1 k s acc (i : Int) (c : Int) (decide (c = 34 ∨ c = 92))) (strOfNums (acc ++ nI (((B s).drop i).flatMap qb ++ [34]))) := by
      by_cases c1 : c = 34 ∨ c = 92
      · rw [decide_eq_true c1]
        refine Ev.step (fun k => ?_) (fwd [92, (c : Int)] (by unfold qb; rw [if_pos c1]; rfl))
        simp only [kindlingref07_Quote.j1]
        rw [if_pos trivial]
        simp only [Option.bind_some]
        rw [if_pos (by simp; omega), hw]
      rw [decide_eq_false c1]
      by_cases c2 : c = 10
      · refine Ev.step (fun k => ?_) (fwd [92, 110] (by unfold qb; rw [if_neg c1, if_pos c2]; rfl))
        simp only [kindlingref07_Quote.j1]
        rw [if_neg (by simp), if_pos (by omega)]
        simp only [Option.bind_some]
        rw [if_pos (by simp; omega), hw]
      by_cases c3 : c = 9
      · refine Ev.step (fun k => ?_) (fwd [92, 116] (by unfold qb; rw [if_neg c1, if_neg c2, if_pos c3]; rfl))
        simp only [kindlingref07_Quote.j1]
        rw [if_neg (by simp), if_neg (by omega), if_pos (by omega)]
        simp only [Option.bind_some]
        rw [if_pos (by simp; omega), hw]
      refine Ev.step (f := fun k => kindlingref07_Quote.j2 k s acc (i : Int) (c : Int) (decide (c < 32 ∨ c > 126))) (fun k => ?_) ?_
      · simp only [kindlingref07_Quote.j1]
        rw [if_neg (by simp), if_neg (by omega), if_neg (by omega)]
        by_cases c4 : c < 32
        · rw [if_pos (by omega), decide_eq_true (.inl c4)]
        · rw [if_neg (by omega)]
          congr 1
          rw [decide_eq_decide]
          omega
      by_cases c4 : c < 32 ∨ c > 126
      · rw [decide_eq_true c4]
        have e1 : Int.tdiv (c : Int) 16 % 256 = ((c / 16 : Nat) : Int) := by rw [Int.tdiv_eq_ediv_of_nonneg (by omega)]; omega
        have e2 : Int.tmod (c : Int) 16 = ((c % 16 : Nat) : Int) := by rw [Int.tmod_eq_emod_of_nonneg (by omega)]; omega
        refine Ev.step (fun k => ?_) (fwd [92, 120, ((hxd (c / 16) : Nat) : Int), ((hxd (c % 16) : Nat) : Int)] (by unfold qb; rw [if_neg c1, if_neg c2, if_neg c3, if_pos c4]; rfl))
        simp only [kindlingref07_Quote.j2]
        rw [if_pos trivial, e1, e2, if_pos (by omega), if_pos (by omega), if_pos (by omega), if_pos (by omega), tab_hex (by omega), tab_hex (by omega)]
        simp only [Option.bind_some]
        rw [if_pos (by simp; omega), hw]
      · rw [decide_eq_false c4]
        refine Ev.step (fun k => ?_) (fwd [(c : Int)] (by unfold qb; rw [if_neg c1, if_neg c2, if_neg c3, if_neg c4]; rfl))
        simp only [kindlingref07_Quote.j2]
        rw [if_neg (by simp), if_pos (by omega), hw]
    refine Ev.step (fun k => ?_) j1
    simp only [kindlingref07_Quote.l0]
    rw [if_pos (by omega), if_pos (by omega), hb]
    by_cases c1 : c = 34
    · rw [if_pos (by omega), decide_eq_true (.inl c1)]
    · rw [if_neg (by omega)]
      congr 1
      rw [Bool.eq_iff_iff]
      simp
      omega
theorem refQuote_f : Ev (fun k => kindlingref07_Quote.f k s) (M (quoL (B s))) := by
  have := refQuote_all hs s.size 0 [34] (by omega) (by omega) (by simp)
  rw [List.drop_zero] at this
  rw [← nums_M]
  exact this
end
end Go.Proofs.YtnihjlnnllngeaaDoor.Lx
