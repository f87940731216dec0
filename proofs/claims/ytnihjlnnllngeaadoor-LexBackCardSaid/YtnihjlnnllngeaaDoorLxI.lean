/- The token that a text begins with: the program's. -/
import Derived.Test.YtnihjlnnllngeaaDoorLxH
import Derived.Test.YtnihjlnnllngeaaDoorHTok
import Derived.Test.YtnihjlnnllngeaaDoorFBytes
import Derived.Test.YtnihjlnnllngeaaDoorFKind
import Derived.Test.YtnihjlnnllngeaaDoorFText
import Derived.Test.YtnihjlnnllngeaaDoorFWord
namespace Go.Proofs.YtnihjlnnllngeaaDoor.Lx
open Go.RowKit Go.Proofs.YtnihjlnnllngeaaDoorW.PrintWords Go.Proofs.YtnihjlnnllngeaaDoor.PL
set_option linter.unusedVariables false
set_option linter.unusedSimpArgs false
set_option linter.unusedSectionVars false

theorem extract_rest (s : ByteArray) (p n : Nat) : s.extract p (p + n) = (s.extract p s.size).extract 0 n := by
  apply B_inj
  rw [B_extract, B_pre, B_rest, Nat.add_sub_cancel_left]
theorem mt_iff {s : ByteArray} {p j : Nat} (hp : p < s.size) (hj : j < 22) : Mt s p j ↔ isPre (s.extract p s.size) (rdOf ByteArray.empty lG0 (j : Int)) = true := by
  unfold Mt isPre
  rw [extract_rest, decide_eq_true_iff, toList_inj]
  constructor
  · exact fun h => h.2
  · intro h
    refine ⟨?_, h⟩
    have h6 := congrArg (fun z => (B z).length) h
    simp only [B_pre, List.length_take, B_length, size_rest] at h6
    omega
theorem signs_at : lG0 = (List.range 22).map (fun j : Nat => rdOf ByteArray.empty lG0 (j : Int)) := rfl
theorem find_sign {s : ByteArray} {p : Nat} (hp : p < s.size) : lG0.find? (isPre (s.extract p s.size)) = ((List.range 22).find? (fun j => decide (Mt s p j))).map (fun j : Nat => rdOf ByteArray.empty lG0 (j : Int)) := by
  have e : (List.range 22).find? (fun j => decide (Mt s p j)) = (List.range 22).find? ((isPre (s.extract p s.size)) ∘ (fun j : Nat => rdOf ByteArray.empty lG0 (j : Int))) := by
    have : ∀ l : List Nat, (∀ j ∈ l, j < 22) → l.find? (fun j => decide (Mt s p j)) = l.find? ((isPre (s.extract p s.size)) ∘ (fun j : Nat => rdOf ByteArray.empty lG0 (j : Int))) := by
      intro l
      induction l with
      | nil => intro _; rfl
      | cons x l ih =>
        intro h
        have hx := mt_iff hp (h x (by simp))
        have e : decide (Mt s p x) = isPre (s.extract p s.size) (rdOf ByteArray.empty lG0 (x : Int)) := by
          rw [Bool.eq_iff_iff, decide_eq_true_iff]
          exact hx
        rw [List.find?_cons, List.find?_cons, ih (fun j hj => h j (by simp [hj]))]
        simp only [Function.comp, e]
    exact this _ (fun j hj => List.mem_range.1 hj)
  rw [e]
  have g := List.find?_map (f := fun j : Nat => rdOf ByteArray.empty lG0 (j : Int)) (p := isPre (s.extract p s.size)) (l := List.range 22)
  rw [← signs_at] at g
  exact g
theorem tvEnd_run (s : ByteArray) (p : Nat) : ∀ f j : Nat, s.size ≤ p + j + f → tvEnd s p f j = j + (((B s).drop (p + j)).takeWhile tvc).length
  | 0, j, h => by
    have hd : (B s).drop (p + j) = [] := List.drop_eq_nil_iff.2 (by rw [B_length]; omega)
    rw [tvEnd, hd]
    rfl
  | f + 1, j, h => by
    rw [tvEnd]
    by_cases hl : p + j < s.size
    · obtain ⟨c, r, hc⟩ := drop_ex s hl
      obtain ⟨hb, _, hr⟩ := bt_drop hc
      have hb2 : bt s ((p : Int) + (j : Int)) = (c : Int) := hb
      rw [hb2, inWord_f, hc, List.takeWhile_cons]
      by_cases ht : tvc c = true
      · have ht2 : (c : Int) ≠ 39 ∧ some (prt c) = some true := by
          simp [tvc] at ht
          exact ⟨by omega, by rw [ht.2]⟩
        rw [if_pos ⟨hl, ht2.1, ht2.2⟩, if_pos ht, tvEnd_run s p f (j + 1) (by omega), show p + (j + 1) = p + j + 1 by omega, hr, List.length_cons]
        omega
      · rw [if_neg, if_neg ht]
        · rfl
        · rintro ⟨_, h1, h2⟩
          apply ht
          simp [tvc] at h2 ⊢
          exact ⟨by omega, h2⟩
    · have hd : (B s).drop (p + j) = [] := List.drop_eq_nil_iff.2 (by rw [B_length]; omega)
      rw [if_neg (fun e => hl e.1), hd]
      rfl
/-- What the scanner's token is. -/
theorem token_f {s : ByteArray} (hs : s.size ≤ 140737488351232) {p : Nat} (hp : p < s.size) :
    ∃ a b c n, Ev (fun k => lex_scanner_token.f k s (p : Int)) (a, b, c, (p : Int), (n : Nat), s, (p : Int)) ∧
      (match lexS (s.extract p s.size) with
        | none => n = 0
        | some q => q = (a, b, c, n) ∧ 0 < n ∧ p + n ≤ s.size) := by
  obtain ⟨c, r, h⟩ := drop_ex s hp
  obtain ⟨hb, hl, hr⟩ := bt_drop h
  have hB : B (s.extract p s.size) = c :: r := by rw [B_rest, h]
  have hqs : (s.extract p s.size).size = s.size - p := size_rest s p
  have hq : (s.extract p s.size).size ≤ 140737488351232 := by omega
  have hlen : r.length + 1 = s.size - p := by rw [← hqs, ← B_length, hB]; rfl
  have h0 : ∀ k, lex_scanner_token.f k s (p : Int) =
    if dig c = true then (lex_number.f k (s.extract p s.size)).bind fun r => some (1, ⟨#[]⟩, r.1, (p : Int), r.2, s, (p : Int))
    else if c = 34 then (lex_text.f k (s.extract p s.size)).bind fun r => some (2, r.1, 0, (p : Int), r.2, s, (p : Int))
    else if ltr c = true then (lex_scanner_word.f k s p p).bind fun r => (lex_wordKind.f k r.1).bind fun kd =>
      if r.2.1 = s ∧ r.2.2 = p then some (kd, r.1, 0, (p : Int), (r.1.size : Int), s, (p : Int)) else none
    else if c = 39 ∧ r.head?.map lo = some true then some (5, s.extract p (p + tvLen s p), 0, (p : Int), (tvLen s p : Int), s, (p : Int))
    else match (List.range 22).find? (fun j => decide (Mt s p j)) with
      | some j => some (7, rdOf ByteArray.empty lG0 (j : Int), 0, (p : Int), ((rdOf ByteArray.empty lG0 (j : Int)).size : Int), s, (p : Int))
      | none => some (0, ⟨#[]⟩, 0, (p : Int), 0, s, (p : Int)) := by
    intro k
    unfold lex_scanner_token.f
    rw [if_pos ⟨by omega, by omega, hs⟩, hb, digit_f, low_f, high_f]
    simp only [Int.toNat_natCast, Option.some.injEq]
    congr 1
    have e34 : ((c : Int) = 34) = (c = 34) := by apply propext; omega
    simp only [e34]
    congr 1
    have el : (lo c = true ∨ hi c = true) = (ltr c = true) := by simp [ltr]
    simp only [el]
    congr 1
    have ev : ((c : Int) = 39 ∧ (p : Int) + 1 < (s.size : Int) ∧ lex_low.f (bt s ((p : Int) + 1)) = some true) = (c = 39 ∧ r.head?.map lo = some true) := by
      apply propext
      cases r with
      | nil =>
        have := drop_nil hr
        simp
        omega
      | cons e u =>
        obtain ⟨hb2, hl2, _⟩ := bt_drop hr
        have hb3 : bt s ((p : Int) + 1) = (e : Int) := hb2
        rw [hb3, low_f]
        simp only [Option.some.injEq, List.head?_cons, Option.map_some]
        constructor
        · rintro ⟨a, b, d⟩
          exact ⟨by omega, d⟩
        · rintro ⟨a, d⟩
          exact ⟨by omega, by omega, d⟩
    simp only [ev]
    rfl
  unfold lexS
  rw [hB]
  simp only
  by_cases h1 : dig c = true
  · have e : ∀ k, lex_scanner_token.f k s (p : Int) = (lex_number.f k (s.extract p s.size)).bind fun r => some (1, ⟨#[]⟩, r.1, (p : Int), r.2, s, (p : Int)) := fun k => by rw [h0, if_pos h1]
    have hn := number_f hq
    unfold numR at hn
    rw [List.drop_zero, hB] at hn
    rw [if_pos h1]
    have hle : ((c :: r).takeWhile dig).length ≤ (c :: r).length := List.Sublist.length_le (List.takeWhile_sublist _)
    have hpos : 0 < ((c :: r).takeWhile dig).length := by rw [List.takeWhile_cons, if_pos h1]; simp
    cases hv : numS 0 ((c :: r).takeWhile dig) with
    | none =>
      rw [hv] at hn
      exact ⟨1, ⟨#[]⟩, 0, 0, Ev.congr e (Ev.bind hn (Ev.now _)), rfl⟩
    | some v =>
      rw [hv] at hn
      refine ⟨1, ⟨#[]⟩, (v : Int), ((c :: r).takeWhile dig).length, Ev.congr e (Ev.bind hn ?_), rfl, hpos, ?_⟩
      · simp only [Nat.zero_add]
        exact Ev.now _
      · simp at hle
        omega
  rw [if_neg h1]
  by_cases h2 : c = 34
  · have e : ∀ k, lex_scanner_token.f k s (p : Int) = (lex_text.f k (s.extract p s.size)).bind fun r => some (2, r.1, 0, (p : Int), r.2, s, (p : Int)) := fun k => by rw [h0, if_neg h1, if_pos h2]
    have hn := text_f hq
    unfold textR at hn
    rw [hB] at hn
    rw [if_pos h2]
    cases hv : qt r with
    | none =>
      rw [List.drop_one, List.tail_cons, hv] at hn
      exact ⟨2, ⟨#[]⟩, 0, 0, Ev.congr e (Ev.bind hn (Ev.now _)), rfl⟩
    | some q =>
      rw [List.drop_one, List.tail_cons, hv] at hn
      have hle := qt_le hv
      refine ⟨2, strOfNums (nI q.1), 0, 1 + q.2, Ev.congr e (Ev.bind hn ?_), rfl, by omega, by omega⟩
      simp only [List.nil_append]
      exact Ev.now _
  rw [if_neg h2]
  by_cases h3 : ltr c = true
  · have e : ∀ k, lex_scanner_token.f k s (p : Int) = (lex_scanner_word.f k s p p).bind fun r => (lex_wordKind.f k r.1).bind fun kd =>
      if r.2.1 = s ∧ r.2.2 = p then some (kd, r.1, 0, (p : Int), (r.1.size : Int), s, (p : Int)) else none := fun k => by rw [h0, if_neg h1, if_neg h2, if_pos h3]
    have hle : (r.takeWhile prt).length ≤ r.length := List.Sublist.length_le (List.takeWhile_sublist _)
    have hn := word_f hs hp (p : Int)
    rw [hr, Nat.add_assoc, extract_rest] at hn
    rw [if_pos h3]
    have hz : ((s.extract p s.size).extract 0 (1 + (r.takeWhile prt).length)).size = 1 + (r.takeWhile prt).length := size_pre (by omega)
    refine ⟨_, _, 0, 1 + (r.takeWhile prt).length, Ev.congr e (Ev.bind hn (Ev.bind (wordKind_f (by rw [hz]; omega)) ?_)), rfl, by omega, by omega⟩
    simp only [and_self, if_true, hz]
    exact Ev.now _
  rw [if_neg h3]
  by_cases h4 : c = 39 ∧ r.head?.map lo = some true
  · have e : ∀ k, lex_scanner_token.f k s (p : Int) = some (5, s.extract p (p + tvLen s p), 0, (p : Int), (tvLen s p : Int), s, (p : Int)) := fun k => by rw [h0, if_neg h1, if_neg h2, if_neg h3, if_pos h4]
    rw [if_pos h4]
    cases hr2 : r with
    | nil => rw [hr2] at h4; simp at h4
    | cons x u =>
      have hu : (B s).drop (p + 2) = u := (bt_drop (hr.trans hr2)).2.2
      have hle : (u.takeWhile tvc).length ≤ u.length := List.Sublist.length_le (List.takeWhile_sublist _)
      have hlen2 : u.length + 1 = r.length := by rw [hr2]; rfl
      have et : tvLen s p = 2 + (u.takeWhile tvc).length := by
        unfold tvLen
        rw [tvEnd_run s p s.size 2 (by omega), hu]
      rw [et, extract_rest] at e
      exact ⟨5, _, 0, _, Ev.congr e (Ev.now _), rfl, by omega, by omega⟩
  rw [if_neg h4]
  have e : ∀ k, lex_scanner_token.f k s (p : Int) = match (List.range 22).find? (fun j => decide (Mt s p j)) with
      | some j => some (7, rdOf ByteArray.empty lG0 (j : Int), 0, (p : Int), ((rdOf ByteArray.empty lG0 (j : Int)).size : Int), s, (p : Int))
      | none => some (0, ⟨#[]⟩, 0, (p : Int), 0, s, (p : Int)) := fun k => by rw [h0, if_neg h1, if_neg h2, if_neg h3, if_neg h4]
  rw [find_sign hp]
  cases hf : (List.range 22).find? (fun j => decide (Mt s p j)) with
  | none =>
    rw [hf] at e
    exact ⟨0, ⟨#[]⟩, 0, 0, Ev.congr e (Ev.now _), rfl⟩
  | some j =>
    rw [hf] at e
    refine ⟨7, _, 0, _, Ev.congr e (Ev.now _), rfl, ?_, ?_⟩
    · have hj := List.mem_range.1 (List.mem_of_find?_eq_some hf)
      have hx : rdOf ByteArray.empty lG0 (j : Int) ∈ lG0 := by
        rw [rdOf_get (by rw [lG0_len2]; exact hj)]
        exact List.getElem_mem _
      have hs2 := signs_first _ hx
      cases hb3 : B (rdOf ByteArray.empty lG0 (j : Int)) with
      | nil => rw [hb3] at hs2; simp [sgnF] at hs2
      | cons _ _ => have := B_length (rdOf ByteArray.empty lG0 (j : Int)); rw [hb3] at this; simp at this; omega
    · have hm : Mt s p j := of_decide_eq_true (List.find?_some (p := fun j => decide (Mt s p j)) hf)
      have := hm.1
      omega
end Go.Proofs.YtnihjlnnllngeaaDoor.Lx
