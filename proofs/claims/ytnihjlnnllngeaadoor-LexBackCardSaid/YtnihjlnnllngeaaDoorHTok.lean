/- The scanner's token: its law in short, and that the function keeps it. -/
import Derived.Test.YtnihjlnnllngeaaDoorHTokA
import Derived.Test.YtnihjlnnllngeaaDoorFBytes
import Derived.Test.YtnihjlnnllngeaaDoorFKind
import Derived.Test.YtnihjlnnllngeaaDoorFText
import Derived.Test.YtnihjlnnllngeaaDoorFWord
namespace Go.Proofs.YtnihjlnnllngeaaDoor.PL
open Go.RowKit Go.Proofs.YtnihjlnnllngeaaDoorW.PrintWords Go.Proofs.YtnihjlnnllngeaaDoorW.PrintLast Go.Proofs.YtnihjlnnllngeaaDoorW.PrintMore
set_option linter.unusedVariables false
set_option linter.unusedSimpArgs false
set_option linter.unusedSectionVars false
theorem digit_tot (c : Int) : ∃ b, lex_digit.f c = some b := by
  unfold lex_digit.f
  split <;> exact ⟨_, rfl⟩
theorem low_tot (c : Int) : ∃ b, lex_low.f c = some b := by
  unfold lex_low.f
  split <;> exact ⟨_, rfl⟩
theorem high_tot (c : Int) : ∃ b, lex_high.f c = some b := by
  unfold lex_high.f
  split <;> exact ⟨_, rfl⟩
theorem inWord_tot (c : Int) : ∃ b, lex_inWord.f c = some b := by
  obtain ⟨x, hx⟩ := low_tot c
  obtain ⟨y, hy⟩ := high_tot c
  obtain ⟨z, hz⟩ := digit_tot c
  unfold lex_inWord.f
  rw [hx, hy, hz]
  simp only [Option.bind_some]
  (repeat' split) <;> exact ⟨_, rfl⟩
/-- How far a type variable goes. -/
def tvEnd (s : ByteArray) (p : Nat) : Nat → Nat → Nat
  | 0, j => j
  | f + 1, j => if p + j < s.size ∧ bt s ((p : Int) + (j : Int)) ≠ 39 ∧ lex_inWord.f (bt s ((p : Int) + (j : Int))) = some true then tvEnd s p f (j + 1) else j
theorem tvEnd_spec (s : ByteArray) (p : Nat) : ∀ f j : Nat, p + j ≤ s.size → s.size ≤ p + j + f →
    j ≤ tvEnd s p f j ∧ p + tvEnd s p f j ≤ s.size ∧
    (∀ i : Nat, j ≤ i → i < tvEnd s p f j → bt s ((p : Int) + (i : Int)) ≠ 39 ∧ lex_inWord.f (bt s ((p : Int) + (i : Int))) = some true) ∧
    (p + tvEnd s p f j < s.size → bt s ((p : Int) + (tvEnd s p f j : Int)) = 39 ∨ bt s ((p : Int) + (tvEnd s p f j : Int)) ≠ 39 ∧ lex_inWord.f (bt s ((p : Int) + (tvEnd s p f j : Int))) = some false)
  | 0, j, h1, h2 => ⟨Nat.le_refl _, h1, fun i a b => by simp only [tvEnd] at b; omega, fun h => by simp only [tvEnd] at h; omega⟩
  | f + 1, j, h1, h2 => by
    unfold tvEnd
    by_cases c : p + j < s.size ∧ bt s ((p : Int) + (j : Int)) ≠ 39 ∧ lex_inWord.f (bt s ((p : Int) + (j : Int))) = some true
    · rw [if_pos c]
      obtain ⟨a1, a2, a3, a4⟩ := tvEnd_spec s p f (j + 1) (by omega) (by omega)
      refine ⟨by omega, a2, fun i hi hl => ?_, a4⟩
      by_cases e : i = j
      · subst e
        exact c.2
      · exact a3 i (by omega) hl
    · rw [if_neg c]
      refine ⟨Nat.le_refl _, h1, fun i a b => by omega, fun h => ?_⟩
      by_cases e : bt s ((p : Int) + (j : Int)) = 39
      · exact .inl e
      · obtain ⟨b, hb⟩ := inWord_tot (bt s ((p : Int) + (j : Int)))
        cases b
        · exact .inr ⟨e, hb⟩
        · exact absurd ⟨h, e, hb⟩ c
def tvLen (s : ByteArray) (p : Nat) : Nat := tvEnd s p s.size 2
instance (s : ByteArray) (p j : Nat) : Decidable (Mt s p j) := inferInstanceAs (Decidable (_ ∧ _))
/-- The token at a place: its four parts, how long it is; the scanner as it was. -/
def lex_scanner_token.f (k : Nat) (s : ByteArray) (p : Int) : Option (Int × ByteArray × Int × Int × Int × ByteArray × Int) :=
  if 0 ≤ p ∧ p < (s.size : Int) ∧ s.size ≤ 140737488351232 then
    if lex_digit.f (bt s p) = some true then (lex_number.f k (s.extract p.toNat s.size)).bind fun r => some (1, ⟨#[]⟩, r.1, p, r.2, s, p)
    else if bt s p = 34 then (lex_text.f k (s.extract p.toNat s.size)).bind fun r => some (2, r.1, 0, p, r.2, s, p)
    else if lex_low.f (bt s p) = some true ∨ lex_high.f (bt s p) = some true then (lex_scanner_word.f k s p p).bind fun r => (lex_wordKind.f k r.1).bind fun kd =>
      if r.2.1 = s ∧ r.2.2 = p then some (kd, r.1, 0, p, (r.1.size : Int), s, p) else none
    else if bt s p = 39 ∧ p + 1 < (s.size : Int) ∧ lex_low.f (bt s (p + 1)) = some true then some (5, s.extract p.toNat (p.toNat + tvLen s p.toNat), 0, p, (tvLen s p.toNat : Int), s, p)
    else match (List.range 22).find? (fun j => decide (Mt s p.toNat j)) with
      | some j => some (7, rdOf ByteArray.empty lG0 (j : Int), 0, p, ((rdOf ByteArray.empty lG0 (j : Int)).size : Int), s, p)
      | none => some (0, ⟨#[]⟩, 0, p, 0, s, p)
  else none
theorem lex_scanner_token.mono : ∀ a0 a1 k, LeO (lex_scanner_token.f k a0 a1) (lex_scanner_token.f (k + 1) a0 a1) := by
  intro s p k
  unfold lex_scanner_token.f
  refine LeO.ite (LeO.ite ?_ (LeO.ite ?_ (LeO.ite ?_ (LeO.refl _)))) (LeO.refl _)
  · intro r h
    obtain ⟨x, h1, h2⟩ := Option.bind_eq_some_iff.mp h
    exact Option.bind_eq_some_iff.mpr ⟨x, lex_number.mono _ _ _ h1, h2⟩
  · intro r h
    obtain ⟨x, h1, h2⟩ := Option.bind_eq_some_iff.mp h
    exact Option.bind_eq_some_iff.mpr ⟨x, lex_text.mono _ _ _ h1, h2⟩
  · intro r h
    obtain ⟨x, h1, h2⟩ := Option.bind_eq_some_iff.mp h
    obtain ⟨y, h3, h4⟩ := Option.bind_eq_some_iff.mp h2
    exact Option.bind_eq_some_iff.mpr ⟨x, lex_scanner_word.mono _ _ _ _ _ h1, Option.bind_eq_some_iff.mpr ⟨y, lex_wordKind.mono _ _ _ h3, h4⟩⟩
theorem not_some_true {o : Option Bool} (h : ∃ b, o = some b) (h2 : ¬ o = some true) : o = some false := by
  obtain ⟨b, rfl⟩ := h
  cases b
  · rfl
  · exact absurd rfl h2
theorem lex_scanner_token.calls (k : Nat) (g : Nat) (s0_0 : ByteArray) (s0_1 : Int) (r1 : Int) (r2 : ByteArray) (r3 : Int) (r4 : Int) (r5 : Int) (r6 : ByteArray) (r7 : Int) (w0 w : World) (hI : IsS44 w0 w g s0_0 s0_1) (hB : Below w0.heap.size w0 w) (hrG0 : Kd.C Kd.string w AG0 lG0.length lG0) (hfG0 : ∀ ad, AG0 = some ad → 0 < lG0.length → ad.block ≠ g) (hrG1 : Kd.C Kd.string w AG1 lG1.length lG1) (hfG1 : ∀ ad, AG1 = some ad → 0 < lG1.length → ad.block ≠ g) (h : lex_scanner_token.f k s0_0 s0_1 = some (r1, r2, r3, r4, r5, r6, r7)) :
  Calls Tryd.prog 24 #[.pointer (some ⟨g, 0, none⟩)] w fun e w' => e = .returned (.tuple #[.agg #[.int .i64 r1, .string r2, .int .i64 r3, .int .i64 r4], .int .i64 r5]) ∧ IsS44 w0 w' g r6 r7 ∧ Below w0.heap.size w0 w' ∧ KeepBut w w' g none := by
  have hc0 := cellS44_0 hI.1
  have hc1 := cellS44_1 hI.1
  have hg : g < w.heap.size := hI.lt
  unfold lex_scanner_token.f at h
  split at h
  case isFalse => exact absurd h (by simp)
  rename_i hp
  obtain ⟨hp0, hp, hs⟩ := hp
  obtain ⟨p, rfl⟩ := Int.eq_ofNat_of_zero_le hp0
  have hp' : p < s0_0.size := by omega
  have HI := Aside0.mk hI
  have HB := Aside0.mk hB
  simp only [Int.toNat_natCast] at h
  by_cases hd : lex_digit.f (bt s0_0 p) = some true
  · rw [if_pos hd] at h
    obtain ⟨x, hx, h⟩ := Option.bind_eq_some_iff.mp h
    cases h
    exact tok_num k g s0_0 p x.1 x.2 w0 w hc0 hc1 hg HI HB hp' ⟨hd⟩ ⟨hx⟩
  rw [if_neg hd] at h
  have hd := not_some_true (digit_tot _) hd
  by_cases h34 : bt s0_0 p = 34
  · rw [if_pos h34] at h
    obtain ⟨x, hx, h⟩ := Option.bind_eq_some_iff.mp h
    cases h
    exact tok_text k g s0_0 p x.1 x.2 w0 w hc0 hc1 hg HI HB hp' ⟨hd⟩ (beq_iff_eq.mpr h34) ⟨hx⟩
  rw [if_neg h34] at h
  have h34 := beq_eq_false_iff_ne.mpr h34
  by_cases hw : lex_low.f (bt s0_0 p) = some true ∨ lex_high.f (bt s0_0 p) = some true
  · rw [if_pos hw] at h
    obtain ⟨⟨x1, x2, x3⟩, hx, h2⟩ := Option.bind_eq_some_iff.mp h
    obtain ⟨kd, hk, h3⟩ := Option.bind_eq_some_iff.mp h2
    clear h h2
    by_cases he : x2 = s0_0 ∧ x3 = (p : Int)
    case neg => rw [if_neg he] at h3; exact absurd h3 (by simp)
    rw [if_pos he] at h3
    obtain ⟨e1, e2⟩ := he
    subst e1 e2
    cases h3
    by_cases hlo : lex_low.f (bt r6 p) = some true
    · exact tok_low k g r6 p _ _ w0 w hc0 hc1 hg HI HB hp' ⟨hd⟩ h34 ⟨hlo⟩ ⟨hx⟩ ⟨hk⟩ ⟨hrG1⟩ hfG1
    · exact tok_high k g r6 p _ _ w0 w hc0 hc1 hg HI HB hp' ⟨hd⟩ h34 ⟨not_some_true (low_tot _) hlo⟩ ⟨hw.resolve_left hlo⟩ ⟨hx⟩ ⟨hk⟩ ⟨hrG1⟩ hfG1
  rw [if_neg hw] at h
  have hlo := not_some_true (low_tot _) (fun e => hw (.inl e))
  have hhi := not_some_true (high_tot _) (fun e => hw (.inr e))
  by_cases hv : bt s0_0 p = 39 ∧ (p : Int) + 1 < (s0_0.size : Int) ∧ lex_low.f (bt s0_0 ((p : Int) + 1)) = some true
  · rw [if_pos hv] at h
    cases h
    obtain ⟨h39, hp1, hl2⟩ := hv
    obtain ⟨t1, t2, t3, t4⟩ := tvEnd_spec s0_0 p s0_0.size 2 (by omega) (by omega)
    exact tok_var k g s0_0 p (tvLen s0_0 p) w0 w hc0 hc1 hg HI HB hp' ⟨hd⟩ h34 ⟨hlo⟩ ⟨hhi⟩ (beq_iff_eq.mpr h39) (by omega) ⟨hl2⟩ t1 t2 hs ⟨t3⟩ ⟨t4⟩
  rw [if_neg hv] at h
  have hq : Aside0 ((bt s0_0 p == 39) = false ∨ (bt s0_0 p == 39) = true ∧ ¬ p + 1 < s0_0.size ∨ (bt s0_0 p == 39) = true ∧ p + 1 < s0_0.size ∧ Aside0 (lex_low.f (bt s0_0 ((p : Int) + 1)) = some false)) := by
    refine ⟨?_⟩
    by_cases h39 : bt s0_0 p = 39
    · by_cases hp1 : p + 1 < s0_0.size
      · exact .inr (.inr ⟨beq_iff_eq.mpr h39, hp1, ⟨not_some_true (low_tot _) (fun e => hv ⟨h39, by omega, e⟩)⟩⟩)
      · exact .inr (.inl ⟨beq_iff_eq.mpr h39, hp1⟩)
    · exact .inl (beq_eq_false_iff_ne.mpr h39)
  split at h
  · rename_i j hj
    cases h
    rw [List.find?_range_eq_some] at hj
    obtain ⟨j1, j2, j3⟩ := hj
    exact tok_sign k g s0_0 p j w0 w hc0 hc1 hg HI HB hp' ⟨hd⟩ h34 ⟨hlo⟩ ⟨hhi⟩ hs hq ⟨hrG0⟩ hfG0 (List.mem_range.mp j2) ⟨fun i hi hm => by have := j3 i hi; simp [hm] at this⟩ ⟨of_decide_eq_true j1⟩
  · rename_i hj
    cases h
    rw [List.find?_range_eq_none] at hj
    exact tok_none k g s0_0 p w0 w hc0 hc1 hg HI HB hp' ⟨hd⟩ h34 ⟨hlo⟩ ⟨hhi⟩ hs hq ⟨hrG0⟩ hfG0 ⟨fun i hi hm => by have := hj i hi; simp [hm] at this⟩
end Go.Proofs.YtnihjlnnllngeaaDoor.PL
