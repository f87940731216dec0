/- The scanner's token: what it makes, way by way. -/
import Derived.Test.YtnihjlnnllngeaaDoorF0
import Derived.Test.YtnihjlnnllngeaaDoorFBytes
import Derived.Test.YtnihjlnnllngeaaDoorFKind
import Derived.Test.YtnihjlnnllngeaaDoorFText
import Derived.Test.YtnihjlnnllngeaaDoorFWord
import Derived.Outline
import Derived.Deep.RegionWith
import Derived.Deep.RegionLaw
namespace Go.Proofs.YtnihjlnnllngeaaDoor.PL
open Go.RowKit Go.Proofs.YtnihjlnnllngeaaDoorW.PrintWords Go.Proofs.YtnihjlnnllngeaaDoorW.PrintLast Go.Proofs.YtnihjlnnllngeaaDoorW.PrintMore
set_option linter.unusedVariables false
set_option linter.unusedSimpArgs false
theorem bcell {W w1 : World} (hb : Below W.heap.size W w1) : (∀ b o, b < W.heap.size → w1.cell? ⟨b, o, none⟩ = W.cell? ⟨b, o, none⟩) ∧ (∀ b o, b < W.heap.size → w1.frozen? ⟨b, o, none⟩ = W.frozen? ⟨b, o, none⟩) :=
  ⟨fun b o h => hb.cell (p := ⟨b, o, none⟩) h, fun b o h => hb.frozen (p := ⟨b, o, none⟩) h⟩

theorem keep_frozen {w W : World} {g : Nat} (h : KeepBut w W g none) {b j : Nat} (hlt : b < w.heap.size) (hne : b ≠ g) : W.frozen? ⟨b, j, none⟩ = w.frozen? ⟨b, j, none⟩ := by
  unfold World.frozen?
  rw [show W.heap[b]? = w.heap[b]? from h.2 b hlt hne (by simp)]

/-- What holds while the token is looked for: its two variables, the scanner. -/
structure TokW (w0 w : World) (g : Nat) (s : ByteArray) (p : Nat) (W : World) : Prop where
  a : W.heap[w.heap.size]? = some (.cells #[.int .i64 0, .string ⟨#[]⟩, .int .i64 0, .int .i64 0] 32 (0, 0))
  b : W.heap[w.heap.size + 1]? = some (.cells #[.int .i64 0, .string ⟨#[]⟩, .int .i64 0, .int .i64 (p : Int)] 32 (0, 0))
  i : IsS44 w0 W g s p
  l : Below w0.heap.size w0 W
  k : KeepBut w W g none
theorem TokW.up {w0 w : World} {g : Nat} {s : ByteArray} {p : Nat} {W W' : World} (h : TokW w0 w g s p W) (u : Below W.heap.size W W') : TokW w0 w g s p W' :=
  ⟨blk_below h.a u, blk_below h.b u, h.i.below u, below_step h.l u, KeepBut.trans h.k (KeepBut.of_below u g none) (.inl rfl)⟩
theorem TokW.drewN {w0 w : World} {g : Nat} {s : ByteArray} {p : Nat} {W : World} (h : TokW w0 w g s p W) (n : Nat) : TokW w0 w g s p (W.drewN n) := h.up (Up.out (W := W))
theorem tokW_start {w0 w : World} {g : Nat} {s : ByteArray} {p n : Nat} (i : IsS44 w0 w g s p) (l : Below w0.heap.size w0 w) :
    TokW w0 w g s p (((w.alloc (.cells #[.int .i64 0, .string ⟨#[]⟩, .int .i64 0, .int .i64 0] 32)).drewN n).alloc (.cells #[.int .i64 0, .string ⟨#[]⟩, .int .i64 0, .int .i64 (p : Int)] 32)) := by
  refine ⟨?_, ?_, ?_, ?_, ?_⟩
  · exact blk_up (heap_alloc_new w _)
  · have := heap_alloc_new ((w.alloc (.cells #[.int .i64 0, .string ⟨#[]⟩, .int .i64 0, .int .i64 0] 32)).drewN n) (.cells #[.int .i64 0, .string ⟨#[]⟩, .int .i64 0, .int .i64 (p : Int)] 32)
    simpa using this
  · exact ((i.alloc _).drewN n).alloc _
  · exact below_step l (Up.out (W := w))
  · exact KeepBut.of_below (Up.out (W := w)) g none

theorem lG0_len : lG0.length = 22 := rfl
theorem lG0_E : Tryd.prog.plainKey 9 = true ∧ Tryd.prog.cellsOf 9 = 1 ∧ (Tryd.prog.info? 9).isSome = true := ⟨by kernel_rfl, by kernel_rfl, by kernel_rfl⟩
/-- The sign number j stands at p. -/
def Mt (s : ByteArray) (p j : Nat) : Prop := (rdOf ByteArray.empty lG0 (j : Int)).size ≤ s.size - p ∧ (s.extract p (p + (rdOf ByteArray.empty lG0 (j : Int)).size)).toList = (rdOf ByteArray.empty lG0 (j : Int)).toList

def TokPost (w0 w : World) (g : Nat) (s : ByteArray) (p : Int) (r1 : Int) (r2 : ByteArray) (r3 r4 r5 : Int) (e : Ending) (w' : World) : Prop :=
  e = .returned (.tuple #[.agg #[.int .i64 r1, .string r2, .int .i64 r3, .int .i64 r4], .int .i64 r5]) ∧ IsS44 w0 w' g s p ∧ Below w0.heap.size w0 w' ∧ KeepBut w w' g none

set_option maxHeartbeats 4000000 in
set_option maxRecDepth 100000 in
theorem tok_num (k : Nat) (g : Nat) (s : ByteArray) (p : Nat) (v n : Int) (w0 w : World) (hc0 : w.cell? ⟨g, 0, none⟩ = some (.string s)) (hc1 : w.cell? ⟨g, 1, none⟩ = some (.int .i64 (p : Int))) (hg : g < w.heap.size)
    (HI : Aside0 (IsS44 w0 w g s p)) (HB : Aside0 (Below w0.heap.size w0 w)) (hp : p < s.size) (hd : Aside0 (lex_digit.f (bt s p) = some true)) (hn : Aside0 (lex_number.f k (s.extract p s.size) = some (v, n))) :
    Calls Tryd.prog 24 #[.pointer (some ⟨g, 0, none⟩)] w (TokPost w0 w g s p 1 ⟨#[]⟩ v p n) := by
  have hu32 := Tryd.underlying32
  have hx : ∀ h : p < s.size, ((s[p]'h).toNat : Int) = bt s p := fun h => by simp [bt, h]
  have p4 := eq_true (show 0 ≤ (p : Int) by omega)
  have q4 := eq_true (show (p : Int) < (s.size : Int) by omega)
  have N0 := Aside0.mk (show g ≠ w.heap.size by omega)
  have N1 := Aside0.mk (show g ≠ w.heap.size + 1 by omega)
  have K0 := Aside0.mk (KeepBut.refl w g none)
  have K1 := Aside0.mk (show w.heap.size ≤ w.heap.size + 1 by omega)
  have K2 := Aside0.mk (Nat.le_refl w.heap.size)
  have B0 := Aside0.mk HB.out.size
  have B1 := Aside0.mk (show w0.heap.size ≤ w.heap.size + 1 from Nat.le_succ_of_le HB.out.size)
  go_enter Tryd.func24, Tryd.ntmps24
  go_wp2
  go_quiet (fail)
  go_wp2_with (first | (go_at_call 38; (with_reducible refine (lex_digit.calls (bt s p) true _ hd.out).mono ?_); rintro e w' ⟨rfl, ⟨nd, rfl⟩⟩))
  go_region_with (go_at_call 39; (with_reducible refine (lex_number.calls k (s.extract p s.size) v n _ hn.out).mono ?_); rintro e w' ⟨rfl, ⟨nd, rfl⟩⟩)
  go_wp2
  all_goals
    refine bodyPost_ret (v := .tuple #[.agg #[.int .i64 1, .string ⟨#[]⟩, .int .i64 v, .int .i64 (p : Int)], .int .i64 n]) (by simp [results, Tryd.results24, go_sem, *]) rfl ?_
    exact ⟨rfl, ai, ai, ai⟩

set_option maxHeartbeats 4000000 in
set_option maxRecDepth 100000 in
theorem tok_text (k : Nat) (g : Nat) (s : ByteArray) (p : Nat) (v : ByteArray) (n : Int) (w0 w : World) (hc0 : w.cell? ⟨g, 0, none⟩ = some (.string s)) (hc1 : w.cell? ⟨g, 1, none⟩ = some (.int .i64 (p : Int))) (hg : g < w.heap.size)
    (HI : Aside0 (IsS44 w0 w g s p)) (HB : Aside0 (Below w0.heap.size w0 w)) (hp : p < s.size) (hd : Aside0 (lex_digit.f (bt s p) = some false)) (h34 : (bt s p == 34) = true) (hn : Aside0 (lex_text.f k (s.extract p s.size) = some (v, n))) :
    Calls Tryd.prog 24 #[.pointer (some ⟨g, 0, none⟩)] w (TokPost w0 w g s p 2 v 0 p n) := by
  have hu32 := Tryd.underlying32
  have hx : ∀ h : p < s.size, ((s[p]'h).toNat : Int) = bt s p := fun h => by simp [bt, h]
  have p4 := eq_true (show 0 ≤ (p : Int) by omega)
  have q4 := eq_true (show (p : Int) < (s.size : Int) by omega)
  have N0 := Aside0.mk (show g ≠ w.heap.size by omega)
  have N1 := Aside0.mk (show g ≠ w.heap.size + 1 by omega)
  have K0 := Aside0.mk (KeepBut.refl w g none)
  have K1 := Aside0.mk (show w.heap.size ≤ w.heap.size + 1 by omega)
  have K2 := Aside0.mk (Nat.le_refl w.heap.size)
  have B0 := Aside0.mk HB.out.size
  have B1 := Aside0.mk (show w0.heap.size ≤ w.heap.size + 1 from Nat.le_succ_of_le HB.out.size)
  go_enter Tryd.func24, Tryd.ntmps24
  go_wp2
  go_quiet (fail)
  go_wp2_with (first | (go_at_call 38; (with_reducible refine (lex_digit.calls (bt s p) false _ hd.out).mono ?_); rintro e w' ⟨rfl, ⟨nd, rfl⟩⟩))
  go_region_with (go_at_call 40; (with_reducible refine (lex_text.calls k (s.extract p s.size) v n _ hn.out).mono ?_); rintro e w' ⟨rfl, hb⟩; have HIw := Aside0.mk (IsS44.below (by exact ai : IsS44 w0 _ g s p) hb); have HBw := Aside0.mk (below_step (by exact ai : Below w0.heap.size w0 _) hb); have HKw := Aside0.mk (KeepBut.trans (by exact ai : KeepBut w _ g none) (KeepBut.of_below hb g none) (.inl rfl)); obtain ⟨hc, hf⟩ := bcell hb; have a0 : w'.cell? ⟨w.heap.size, 0, none⟩ = some (.int .i64 0) := (hc _ _ (by simp <;> omega)).trans (by go_simp); have a1 : w'.cell? ⟨w.heap.size, 1, none⟩ = some (.string ⟨#[]⟩) := (hc _ _ (by simp <;> omega)).trans (by go_simp); have a2 : w'.cell? ⟨w.heap.size, 2, none⟩ = some (.int .i64 0) := (hc _ _ (by simp <;> omega)).trans (by go_simp); have a3 : w'.cell? ⟨w.heap.size, 3, none⟩ = some (.int .i64 0) := (hc _ _ (by simp <;> omega)).trans (by go_simp); have b0 : w'.cell? ⟨w.heap.size + 1, 0, none⟩ = some (.int .i64 2) := (hc _ _ (by simp <;> omega)).trans (by go_simp); have b1 : w'.cell? ⟨w.heap.size + 1, 1, none⟩ = some (.string ⟨#[]⟩) := (hc _ _ (by simp <;> omega)).trans (by go_simp); have b2 : w'.cell? ⟨w.heap.size + 1, 2, none⟩ = some (.int .i64 0) := (hc _ _ (by simp <;> omega)).trans (by go_simp); have b3 : w'.cell? ⟨w.heap.size + 1, 3, none⟩ = some (.int .i64 (p : Int)) := (hc _ _ (by simp <;> omega)).trans (by go_simp); have f0 : w'.frozen? ⟨w.heap.size, 0, none⟩ = false := (hf _ _ (by simp <;> omega)).trans (by go_simp); have f1 : w'.frozen? ⟨w.heap.size, 1, none⟩ = false := (hf _ _ (by simp <;> omega)).trans (by go_simp); have f2 : w'.frozen? ⟨w.heap.size, 2, none⟩ = false := (hf _ _ (by simp <;> omega)).trans (by go_simp); have f3 : w'.frozen? ⟨w.heap.size, 3, none⟩ = false := (hf _ _ (by simp <;> omega)).trans (by go_simp); have g0 : w'.frozen? ⟨w.heap.size + 1, 0, none⟩ = false := (hf _ _ (by simp <;> omega)).trans (by go_simp); have g1 : w'.frozen? ⟨w.heap.size + 1, 1, none⟩ = false := (hf _ _ (by simp <;> omega)).trans (by go_simp); have g2 : w'.frozen? ⟨w.heap.size + 1, 2, none⟩ = false := (hf _ _ (by simp <;> omega)).trans (by go_simp); have g3 : w'.frozen? ⟨w.heap.size + 1, 3, none⟩ = false := (hf _ _ (by simp <;> omega)).trans (by go_simp); clear hb hc hf)
  go_wp2
  all_goals
    refine bodyPost_ret (v := .tuple #[.agg #[.int .i64 2, .string v, .int .i64 0, .int .i64 (p : Int)], .int .i64 n]) (by simp [results, Tryd.results24, go_sem, *]) rfl ?_
    exact ⟨rfl, ai, ai, ai⟩

set_option maxHeartbeats 4000000 in
set_option maxRecDepth 100000 in
theorem tok_low (k : Nat) (g : Nat) (s : ByteArray) (p : Nat) (v : ByteArray) (kd : Int) (w0 w : World) (hc0 : w.cell? ⟨g, 0, none⟩ = some (.string s)) (hc1 : w.cell? ⟨g, 1, none⟩ = some (.int .i64 (p : Int))) (hg : g < w.heap.size)
    (HI : Aside0 (IsS44 w0 w g s p)) (HB : Aside0 (Below w0.heap.size w0 w)) (hp : p < s.size) (hd : Aside0 (lex_digit.f (bt s p) = some false)) (h34 : (bt s p == 34) = false) (hlo : Aside0 (lex_low.f (bt s p) = some true)) (hn : Aside0 (lex_scanner_word.f k s p p = some (v, s, (p : Int)))) (hk0 : Aside0 (lex_wordKind.f k v = some kd)) (hrG1 : Aside0 (Kd.C Kd.string w AG1 lG1.length lG1)) (hfG1 : ∀ ad, AG1 = some ad → 0 < lG1.length → ad.block ≠ g) :
    Calls Tryd.prog 24 #[.pointer (some ⟨g, 0, none⟩)] w (TokPost w0 w g s p kd v 0 p v.size) := by
  have hu32 := Tryd.underlying32
  have hx : ∀ h : p < s.size, ((s[p]'h).toNat : Int) = bt s p := fun h => by simp [bt, h]
  have p4 := eq_true (show 0 ≤ (p : Int) by omega)
  have q4 := eq_true (show (p : Int) < (s.size : Int) by omega)
  have N0 := Aside0.mk (show g ≠ w.heap.size by omega)
  have N1 := Aside0.mk (show g ≠ w.heap.size + 1 by omega)
  have K0 := Aside0.mk (KeepBut.refl w g none)
  have K1 := Aside0.mk (show w.heap.size ≤ w.heap.size + 1 by omega)
  have K2 := Aside0.mk (Nat.le_refl w.heap.size)
  have B0 := Aside0.mk HB.out.size
  have B1 := Aside0.mk (show w0.heap.size ≤ w.heap.size + 1 from Nat.le_succ_of_le HB.out.size)
  go_enter Tryd.func24, Tryd.ntmps24
  go_wp2
  go_quiet (fail)
  go_wp2_with (first | (go_at_call 38; (with_reducible refine (lex_digit.calls (bt s p) false _ hd.out).mono ?_); rintro e w' ⟨rfl, ⟨nd, rfl⟩⟩) | (go_at_call 29; (with_reducible refine (lex_low.calls (bt s p) true _ hlo.out).mono ?_); rintro e w' ⟨rfl, ⟨nd, rfl⟩⟩))
  repeat (go_quiet (first | (go_at_call 29; (with_reducible refine (lex_low.calls (bt s p) true _ hlo.out).mono ?_); rintro e w' ⟨rfl, ⟨nd, rfl⟩⟩)); try go_wp2_with (first | (go_at_call 29; (with_reducible refine (lex_low.calls (bt s p) true _ hlo.out).mono ?_); rintro e w' ⟨rfl, ⟨nd, rfl⟩⟩)))
  refine (lex_scanner_word.calls k g s p p v s p w0 _ (by exact ai) (by exact ai) hn.out).mono ?_
  rintro e w' ⟨rfl, hi, hb, hk⟩
  have a0 : w'.cell? ⟨w.heap.size, 0, none⟩ = some (.int .i64 0) := keep_cell hk (by go_simp) (by simp <;> omega); have a1 : w'.cell? ⟨w.heap.size, 1, none⟩ = some (.string ⟨#[]⟩) := keep_cell hk (by go_simp) (by simp <;> omega); have a2 : w'.cell? ⟨w.heap.size, 2, none⟩ = some (.int .i64 0) := keep_cell hk (by go_simp) (by simp <;> omega); have a3 : w'.cell? ⟨w.heap.size, 3, none⟩ = some (.int .i64 0) := keep_cell hk (by go_simp) (by simp <;> omega); have b0 : w'.cell? ⟨w.heap.size + 1, 0, none⟩ = some (.int .i64 0) := keep_cell hk (by go_simp) (by simp <;> omega); have b1 : w'.cell? ⟨w.heap.size + 1, 1, none⟩ = some (.string ⟨#[]⟩) := keep_cell hk (by go_simp) (by simp <;> omega); have b2 : w'.cell? ⟨w.heap.size + 1, 2, none⟩ = some (.int .i64 0) := keep_cell hk (by go_simp) (by simp <;> omega); have b3 : w'.cell? ⟨w.heap.size + 1, 3, none⟩ = some (.int .i64 (p : Int)) := keep_cell hk (by go_simp) (by simp <;> omega)
  have hI2 := Aside0.mk hi
  have hB2 := Aside0.mk hb
  have hK2 := Aside0.mk (KeepBut.trans (by exact ai : KeepBut w _ g none) hk (.inl rfl))
  have f0 : ∀ j, w'.frozen? ⟨w.heap.size, j, none⟩ = false := fun j => (keep_frozen hk (by simp <;> omega) (by simp <;> omega)).trans (by go_simp)
  have f1 : ∀ j, w'.frozen? ⟨w.heap.size + 1, j, none⟩ = false := fun j => (keep_frozen hk (by simp) (by simp <;> omega)).trans (by go_simp)
  clear hi hb hk
  have d0 := hI2.out.1
  have d00 := cellS44_0 d0
  have d01 := cellS44_1 d0
  clear d0
  go_wp2_with (first | (go_at_call 32; (refine (lex_wordKind.calls k v kd _ (by exact Kd.C_keep (⟨#[]⟩ : ByteArray) hrG1.out (by exact ai) hfG1) hk0.out).mono ?_); rintro e w' ⟨rfl, ⟨nd, rfl⟩⟩))
  all_goals
    refine bodyPost_ret (v := .tuple #[.agg #[.int .i64 kd, .string v, .int .i64 0, .int .i64 (p : Int)], .int .i64 (v.size : Int)]) (by simp [results, Tryd.results24, go_sem, *]) rfl ?_
    exact ⟨rfl, ai, ai, ai⟩

set_option maxHeartbeats 4000000 in
set_option maxRecDepth 100000 in
theorem tok_high (k : Nat) (g : Nat) (s : ByteArray) (p : Nat) (v : ByteArray) (kd : Int) (w0 w : World) (hc0 : w.cell? ⟨g, 0, none⟩ = some (.string s)) (hc1 : w.cell? ⟨g, 1, none⟩ = some (.int .i64 (p : Int))) (hg : g < w.heap.size)
    (HI : Aside0 (IsS44 w0 w g s p)) (HB : Aside0 (Below w0.heap.size w0 w)) (hp : p < s.size) (hd : Aside0 (lex_digit.f (bt s p) = some false)) (h34 : (bt s p == 34) = false) (hlo : Aside0 (lex_low.f (bt s p) = some false)) (hhi : Aside0 (lex_high.f (bt s p) = some true)) (hn : Aside0 (lex_scanner_word.f k s p p = some (v, s, (p : Int)))) (hk0 : Aside0 (lex_wordKind.f k v = some kd)) (hrG1 : Aside0 (Kd.C Kd.string w AG1 lG1.length lG1)) (hfG1 : ∀ ad, AG1 = some ad → 0 < lG1.length → ad.block ≠ g) :
    Calls Tryd.prog 24 #[.pointer (some ⟨g, 0, none⟩)] w (TokPost w0 w g s p kd v 0 p v.size) := by
  have hu32 := Tryd.underlying32
  have hx : ∀ h : p < s.size, ((s[p]'h).toNat : Int) = bt s p := fun h => by simp [bt, h]
  have p4 := eq_true (show 0 ≤ (p : Int) by omega)
  have q4 := eq_true (show (p : Int) < (s.size : Int) by omega)
  have N0 := Aside0.mk (show g ≠ w.heap.size by omega)
  have N1 := Aside0.mk (show g ≠ w.heap.size + 1 by omega)
  have K0 := Aside0.mk (KeepBut.refl w g none)
  have K1 := Aside0.mk (show w.heap.size ≤ w.heap.size + 1 by omega)
  have K2 := Aside0.mk (Nat.le_refl w.heap.size)
  have B0 := Aside0.mk HB.out.size
  have B1 := Aside0.mk (show w0.heap.size ≤ w.heap.size + 1 from Nat.le_succ_of_le HB.out.size)
  go_enter Tryd.func24, Tryd.ntmps24
  go_wp2
  go_quiet (fail)
  go_wp2_with (first | (go_at_call 38; (with_reducible refine (lex_digit.calls (bt s p) false _ hd.out).mono ?_); rintro e w' ⟨rfl, ⟨nd, rfl⟩⟩) | (go_at_call 29; (with_reducible refine (lex_low.calls (bt s p) false _ hlo.out).mono ?_); rintro e w' ⟨rfl, ⟨nd, rfl⟩⟩) | (go_at_call 31; (with_reducible refine (lex_high.calls (bt s p) true _ hhi.out).mono ?_); rintro e w' ⟨rfl, ⟨nd, rfl⟩⟩))
  repeat (go_quiet (first | (go_at_call 29; (with_reducible refine (lex_low.calls (bt s p) false _ hlo.out).mono ?_); rintro e w' ⟨rfl, ⟨nd, rfl⟩⟩) | (go_at_call 31; (with_reducible refine (lex_high.calls (bt s p) true _ hhi.out).mono ?_); rintro e w' ⟨rfl, ⟨nd, rfl⟩⟩)); try go_wp2_with (first | (go_at_call 29; (with_reducible refine (lex_low.calls (bt s p) false _ hlo.out).mono ?_); rintro e w' ⟨rfl, ⟨nd, rfl⟩⟩) | (go_at_call 31; (with_reducible refine (lex_high.calls (bt s p) true _ hhi.out).mono ?_); rintro e w' ⟨rfl, ⟨nd, rfl⟩⟩)))
  refine (lex_scanner_word.calls k g s p p v s p w0 _ (by exact ai) (by exact ai) hn.out).mono ?_
  rintro e w' ⟨rfl, hi, hb, hk⟩
  have a0 : w'.cell? ⟨w.heap.size, 0, none⟩ = some (.int .i64 0) := keep_cell hk (by go_simp) (by simp <;> omega); have a1 : w'.cell? ⟨w.heap.size, 1, none⟩ = some (.string ⟨#[]⟩) := keep_cell hk (by go_simp) (by simp <;> omega); have a2 : w'.cell? ⟨w.heap.size, 2, none⟩ = some (.int .i64 0) := keep_cell hk (by go_simp) (by simp <;> omega); have a3 : w'.cell? ⟨w.heap.size, 3, none⟩ = some (.int .i64 0) := keep_cell hk (by go_simp) (by simp <;> omega); have b0 : w'.cell? ⟨w.heap.size + 1, 0, none⟩ = some (.int .i64 0) := keep_cell hk (by go_simp) (by simp <;> omega); have b1 : w'.cell? ⟨w.heap.size + 1, 1, none⟩ = some (.string ⟨#[]⟩) := keep_cell hk (by go_simp) (by simp <;> omega); have b2 : w'.cell? ⟨w.heap.size + 1, 2, none⟩ = some (.int .i64 0) := keep_cell hk (by go_simp) (by simp <;> omega); have b3 : w'.cell? ⟨w.heap.size + 1, 3, none⟩ = some (.int .i64 (p : Int)) := keep_cell hk (by go_simp) (by simp <;> omega)
  have hI2 := Aside0.mk hi
  have hB2 := Aside0.mk hb
  have hK2 := Aside0.mk (KeepBut.trans (by exact ai : KeepBut w _ g none) hk (.inl rfl))
  have f0 : ∀ j, w'.frozen? ⟨w.heap.size, j, none⟩ = false := fun j => (keep_frozen hk (by simp <;> omega) (by simp <;> omega)).trans (by go_simp)
  have f1 : ∀ j, w'.frozen? ⟨w.heap.size + 1, j, none⟩ = false := fun j => (keep_frozen hk (by simp) (by simp <;> omega)).trans (by go_simp)
  clear hi hb hk
  have d0 := hI2.out.1
  have d00 := cellS44_0 d0
  have d01 := cellS44_1 d0
  clear d0
  go_wp2_with (first | (go_at_call 32; (refine (lex_wordKind.calls k v kd _ (by exact Kd.C_keep (⟨#[]⟩ : ByteArray) hrG1.out (by exact ai) hfG1) hk0.out).mono ?_); rintro e w' ⟨rfl, ⟨nd, rfl⟩⟩))
  all_goals
    refine bodyPost_ret (v := .tuple #[.agg #[.int .i64 kd, .string v, .int .i64 0, .int .i64 (p : Int)], .int .i64 (v.size : Int)]) (by simp [results, Tryd.results24, go_sem, *]) rfl ?_
    exact ⟨rfl, ai, ai, ai⟩

set_option maxHeartbeats 4000000 in
set_option maxRecDepth 100000 in
theorem tok_var (k : Nat) (g : Nat) (s : ByteArray) (p : Nat) (N : Nat) (w0 w : World) (hc0 : w.cell? ⟨g, 0, none⟩ = some (.string s)) (hc1 : w.cell? ⟨g, 1, none⟩ = some (.int .i64 (p : Int))) (hg : g < w.heap.size)
    (HI : Aside0 (IsS44 w0 w g s p)) (HB : Aside0 (Below w0.heap.size w0 w)) (hp : p < s.size) (hd : Aside0 (lex_digit.f (bt s p) = some false)) (h34 : (bt s p == 34) = false) (hlo : Aside0 (lex_low.f (bt s p) = some false)) (hhi : Aside0 (lex_high.f (bt s p) = some false)) (h39 : (bt s p == 39) = true) (hp1 : p + 1 < s.size) (hl2 : Aside0 (lex_low.f (bt s ((p : Int) + 1)) = some true)) (hN : 2 ≤ N) (hNs : p + N ≤ s.size) (hs : s.size ≤ 140737488351232) (hin : Aside0 (∀ j : Nat, 2 ≤ j → j < N → bt s ((p : Int) + (j : Int)) ≠ 39 ∧ lex_inWord.f (bt s ((p : Int) + (j : Int))) = some true)) (hout : Aside0 (p + N < s.size → bt s ((p : Int) + (N : Int)) = 39 ∨ bt s ((p : Int) + (N : Int)) ≠ 39 ∧ lex_inWord.f (bt s ((p : Int) + (N : Int))) = some false)) :
    Calls Tryd.prog 24 #[.pointer (some ⟨g, 0, none⟩)] w (TokPost w0 w g s p 5 (s.extract p (p + N)) 0 p N) := by
  have hu32 := Tryd.underlying32
  have hx : ∀ h : p < s.size, ((s[p]'h).toNat : Int) = bt s p := fun h => by simp [bt, h]
  have p4 := eq_true (show 0 ≤ (p : Int) by omega)
  have q4 := eq_true (show (p : Int) < (s.size : Int) by omega)
  have N0 := Aside0.mk (show g ≠ w.heap.size by omega)
  have N1 := Aside0.mk (show g ≠ w.heap.size + 1 by omega)
  have K0 := Aside0.mk (KeepBut.refl w g none)
  have K1 := Aside0.mk (show w.heap.size ≤ w.heap.size + 1 by omega)
  have K2 := Aside0.mk (Nat.le_refl w.heap.size)
  have B0 := Aside0.mk HB.out.size
  have B1 := Aside0.mk (show w0.heap.size ≤ w.heap.size + 1 from Nat.le_succ_of_le HB.out.size)
  have hx2 : ∀ h : p + 1 < s.size, ((s[p + 1]'h).toNat : Int) = bt s ((p : Int) + 1) := fun h => by rw [show (p : Int) + 1 = ((p + 1 : Nat) : Int) from rfl]; simp only [bt, Int.toNat_natCast]; rw [dif_pos h]
  have e1 := eq_true (show (p : Int) + 1 < (s.size : Int) by omega)
  have e2 := eq_true (show 0 ≤ (p : Int) + 1 by omega)
  go_enter Tryd.func24, Tryd.ntmps24
  go_wp2
  go_quiet (fail)
  go_wp2_with (first | (go_at_call 38; (with_reducible refine (lex_digit.calls (bt s p) false _ hd.out).mono ?_); rintro e w' ⟨rfl, ⟨nd, rfl⟩⟩) | (go_at_call 29; (with_reducible refine (lex_low.calls (bt s p) false _ hlo.out).mono ?_); rintro e w' ⟨rfl, ⟨nd, rfl⟩⟩) | (go_at_call 31; (with_reducible refine (lex_high.calls (bt s p) false _ hhi.out).mono ?_); rintro e w' ⟨rfl, ⟨nd, rfl⟩⟩))
  repeat (go_quiet (first | (go_at_call 29; (with_reducible refine (lex_low.calls (bt s p) false _ hlo.out).mono ?_); rintro e w' ⟨rfl, ⟨nd, rfl⟩⟩) | (go_at_call 31; (with_reducible refine (lex_high.calls (bt s p) false _ hhi.out).mono ?_); rintro e w' ⟨rfl, ⟨nd, rfl⟩⟩)); try go_wp2_with (first | (go_at_call 29; (with_reducible refine (lex_low.calls (bt s p) false _ hlo.out).mono ?_); rintro e w' ⟨rfl, ⟨nd, rfl⟩⟩) | (go_at_call 31; (with_reducible refine (lex_high.calls (bt s p) false _ hhi.out).mono ?_); rintro e w' ⟨rfl, ⟨nd, rfl⟩⟩)))
  have e0 : IntKind.i64.wrap ((p : Int) + 1) = (p : Int) + 1 := by rw [i64_w]; unfold wrap64; omega
  have e3 : ((p : Int) + 1).toNat = p + 1 := by omega
  go_quiet (first | (go_at_call 29; (with_reducible refine (lex_low.calls (bt s ((p : Int) + 1)) true _ hl2.out).mono ?_); rintro e w' ⟨rfl, ⟨nd, rfl⟩⟩; (try first | exact ⟨rfl, _, World.drewN_drewN _ _ _⟩ | exact ⟨rfl, _, Eq.trans (World.drewN_drewN _ _ _) (congrArg (World.drewN _) (Nat.add_assoc _ _ _))⟩)))
  clear e0 e3
  go_wp2
  go_loopw [6] (fun v wr => ∃ m : Nat, v = .int .i64 (m : Int) ∧ 2 ≤ m ∧ m ≤ N ∧ Aside0 (TokW w0 w g s p wr)) (fun v _ => N - (intOf v).toNat)
  case atStart => exact ⟨2, rfl, Nat.le_refl _, hN, ⟨by (repeat apply TokW.drewN); exact tokW_start HI.out HB.out⟩⟩
  case round =>
    obtain ⟨m, rfl, hm2, hmN, HT⟩ := hrel
    have a0 := blk_cell HT.out.a 0
    have a1 := blk_cell HT.out.a 1
    have a2 := blk_cell HT.out.a 2
    have a3 := blk_cell HT.out.a 3
    have b0 := blk_cell HT.out.b 0
    have b1 := blk_cell HT.out.b 1
    have b2 := blk_cell HT.out.b 2
    have b3 := blk_cell HT.out.b 3
    have f0 := fun j => blk_frozen HT.out.a j
    have f1 := fun j => blk_frozen HT.out.b j
    simp only [List.getElem?_toArray, List.getElem?_cons_zero, List.getElem?_cons_succ] at a0 a1 a2 a3 b0 b1 b2 b3
    have hI2 := Aside0.mk HT.out.i
    have hB2 := Aside0.mk HT.out.l
    have hK2 := Aside0.mk HT.out.k
    have d00 := cellS44_0 HT.out.i.1
    have d01 := cellS44_1 HT.out.i.1
    clear hc0 hc1
    have e4 := eq_true (show 0 ≤ (p : Int) + (m : Int) by omega)
    have hx3 : ∀ h : p + m < s.size, ((s[p + m]'h).toNat : Int) = bt s ((p : Int) + (m : Int)) := fun h => by rw [show (p : Int) + (m : Int) = ((p + m : Nat) : Int) from rfl]; simp only [bt, Int.toNat_natCast]; rw [dif_pos h]
    by_cases hlt : m < N
    · obtain ⟨w1, w2⟩ := hin.out m hm2 hlt
      have hw3 := Aside0.mk w2
      have e5 := eq_true (show (p : Int) + (m : Int) < (s.size : Int) by omega)
      have e6 : (bt s ((p : Int) + (m : Int)) != 39) = true := bne_iff_ne.mpr w1
      clear w1 w2
      have e0 : IntKind.i64.wrap ((p : Int) + (m : Int)) = (p : Int) + (m : Int) := by rw [i64_w]; unfold wrap64; omega
      have e3 : ((p : Int) + (m : Int)).toNat = p + m := by omega
      go_wp2
      go_quiet (first | (go_at_call 30; (with_reducible refine (lex_inWord.calls (bt s ((p : Int) + (m : Int))) true _ hw3.out).mono ?_); rintro e w' ⟨rfl, ⟨nd, rfl⟩⟩; (try first | exact ⟨rfl, _, World.drewN_drewN _ _ _⟩ | exact ⟨rfl, _, Eq.trans (World.drewN_drewN _ _ _) (congrArg (World.drewN _) (Nat.add_assoc _ _ _))⟩)))
      clear e0 e3
      go_wp2
      go_roundw
      case rel => exact ⟨m + 1, by go_num, by omega, by omega, ⟨HT.out.up (by exact Up.out)⟩⟩
      case measure => simp [intOf]; omega
    · obtain rfl : m = N := by omega
      clear hlt
      have e7 := eq_true (show (p : Int) + (m : Int) ≤ (s.size : Int) by omega)
      have e8 := eq_true (show (p : Int) ≤ (p : Int) + (m : Int) by omega)
      by_cases hlt : p + m < s.size
      · have e5 := eq_true (show (p : Int) + (m : Int) < (s.size : Int) by omega)
        rcases hout.out hlt with w1 | ⟨w1, w2⟩
        · have e6 : (bt s ((p : Int) + (m : Int)) != 39) = false := bne_eq_false_iff_eq.mpr w1
          clear w1
          have e0 : IntKind.i64.wrap ((p : Int) + (m : Int)) = (p : Int) + (m : Int) := by rw [i64_w]; unfold wrap64; omega
          have e3 : ((p : Int) + (m : Int)).toNat = p + m := by omega
          go_wp2
          go_quiet (first | fail)
          go_wp2
          go_region
          all_goals
            go_wp2
            refine bodyPost_ret (v := .tuple #[.agg #[.int .i64 5, .string (s.extract p (p + m)), .int .i64 0, .int .i64 (p : Int)], .int .i64 (m : Int)]) (by simp [results, Tryd.results24, go_sem, a0, a1, a2, a3, b0, b1, b2, b3]) rfl ?_
            exact ⟨rfl, ai, ai, ai⟩
        · have hw3 := Aside0.mk w2
          have e6 : (bt s ((p : Int) + (m : Int)) != 39) = true := bne_iff_ne.mpr w1
          clear w1 w2
          have e0 : IntKind.i64.wrap ((p : Int) + (m : Int)) = (p : Int) + (m : Int) := by rw [i64_w]; unfold wrap64; omega
          have e3 : ((p : Int) + (m : Int)).toNat = p + m := by omega
          go_wp2
          go_quiet (first | (go_at_call 30; (with_reducible refine (lex_inWord.calls (bt s ((p : Int) + (m : Int))) false _ hw3.out).mono ?_); rintro e w' ⟨rfl, ⟨nd, rfl⟩⟩; (try first | exact ⟨rfl, _, World.drewN_drewN _ _ _⟩ | exact ⟨rfl, _, Eq.trans (World.drewN_drewN _ _ _) (congrArg (World.drewN _) (Nat.add_assoc _ _ _))⟩)))
          go_wp2
          go_region
          all_goals
            go_wp2
            refine bodyPost_ret (v := .tuple #[.agg #[.int .i64 5, .string (s.extract p (p + m)), .int .i64 0, .int .i64 (p : Int)], .int .i64 (m : Int)]) (by simp [results, Tryd.results24, go_sem, a0, a1, a2, a3, b0, b1, b2, b3]) rfl ?_
            exact ⟨rfl, ai, ai, ai⟩
      · have e5 := eq_false (show ¬ (p : Int) + (m : Int) < (s.size : Int) by omega)
        have e0 : IntKind.i64.wrap ((p : Int) + (m : Int)) = (p : Int) + (m : Int) := by rw [i64_w]; unfold wrap64; omega
        have e3 : ((p : Int) + (m : Int)).toNat = p + m := by omega
        go_wp2
        go_quiet (first | fail)
        go_wp2
        go_region
        all_goals
          go_wp2
          refine bodyPost_ret (v := .tuple #[.agg #[.int .i64 5, .string (s.extract p (p + m)), .int .i64 0, .int .i64 (p : Int)], .int .i64 (m : Int)]) (by simp [results, Tryd.results24, go_sem, a0, a1, a2, a3, b0, b1, b2, b3]) rfl ?_
          exact ⟨rfl, ai, ai, ai⟩

set_option maxHeartbeats 4000000 in
set_option maxRecDepth 100000 in
theorem tok_none (k : Nat) (g : Nat) (s : ByteArray) (p : Nat) (w0 w : World) (hc0 : w.cell? ⟨g, 0, none⟩ = some (.string s)) (hc1 : w.cell? ⟨g, 1, none⟩ = some (.int .i64 (p : Int))) (hg : g < w.heap.size)
    (HI : Aside0 (IsS44 w0 w g s p)) (HB : Aside0 (Below w0.heap.size w0 w)) (hp : p < s.size) (hd : Aside0 (lex_digit.f (bt s p) = some false)) (h34 : (bt s p == 34) = false) (hlo : Aside0 (lex_low.f (bt s p) = some false)) (hhi : Aside0 (lex_high.f (bt s p) = some false)) (hs : s.size ≤ 140737488351232) (hq : Aside0 ((bt s p == 39) = false ∨ (bt s p == 39) = true ∧ ¬ p + 1 < s.size ∨ (bt s p == 39) = true ∧ p + 1 < s.size ∧ Aside0 (lex_low.f (bt s ((p : Int) + 1)) = some false))) (hrG0 : Aside0 (Kd.C Kd.string w AG0 lG0.length lG0)) (hfG0 : ∀ ad, AG0 = some ad → 0 < lG0.length → ad.block ≠ g) (hno : Aside0 (∀ i, i < 22 → ¬ Mt s p i)) :
    Calls Tryd.prog 24 #[.pointer (some ⟨g, 0, none⟩)] w (TokPost w0 w g s p 0 ⟨#[]⟩ 0 p 0) := by
  have hu32 := Tryd.underlying32
  have hx : ∀ h : p < s.size, ((s[p]'h).toNat : Int) = bt s p := fun h => by simp [bt, h]
  have p4 := eq_true (show 0 ≤ (p : Int) by omega)
  have q4 := eq_true (show (p : Int) < (s.size : Int) by omega)
  have N0 := Aside0.mk (show g ≠ w.heap.size by omega)
  have N1 := Aside0.mk (show g ≠ w.heap.size + 1 by omega)
  have K0 := Aside0.mk (KeepBut.refl w g none)
  have K1 := Aside0.mk (show w.heap.size ≤ w.heap.size + 1 by omega)
  have K2 := Aside0.mk (Nat.le_refl w.heap.size)
  have B0 := Aside0.mk HB.out.size
  have B1 := Aside0.mk (show w0.heap.size ≤ w.heap.size + 1 from Nat.le_succ_of_le HB.out.size)
  go_enter Tryd.func24, Tryd.ntmps24
  go_wp2
  go_quiet (fail)
  go_wp2_with (first | (go_at_call 38; (with_reducible refine (lex_digit.calls (bt s p) false _ hd.out).mono ?_); rintro e w' ⟨rfl, ⟨nd, rfl⟩⟩) | (go_at_call 29; (with_reducible refine (lex_low.calls (bt s p) false _ hlo.out).mono ?_); rintro e w' ⟨rfl, ⟨nd, rfl⟩⟩) | (go_at_call 31; (with_reducible refine (lex_high.calls (bt s p) false _ hhi.out).mono ?_); rintro e w' ⟨rfl, ⟨nd, rfl⟩⟩))
  repeat (go_quiet (first | (go_at_call 29; (with_reducible refine (lex_low.calls (bt s p) false _ hlo.out).mono ?_); rintro e w' ⟨rfl, ⟨nd, rfl⟩⟩) | (go_at_call 31; (with_reducible refine (lex_high.calls (bt s p) false _ hhi.out).mono ?_); rintro e w' ⟨rfl, ⟨nd, rfl⟩⟩)); try go_wp2_with (first | (go_at_call 29; (with_reducible refine (lex_low.calls (bt s p) false _ hlo.out).mono ?_); rintro e w' ⟨rfl, ⟨nd, rfl⟩⟩) | (go_at_call 31; (with_reducible refine (lex_high.calls (bt s p) false _ hhi.out).mono ?_); rintro e w' ⟨rfl, ⟨nd, rfl⟩⟩)))
  rcases hq.out with h39 | ⟨h39, h1⟩ | ⟨h39, h1, hl2⟩
  · clear hq
    go_quiet (fail)
    go_wp2
    go_step3
    go_wp2
    go_step3
    go_wp2_with (first | ((with_reducible refine gate_list ?_); refine wpList_load_glob (g := 0) (ty := 52) (v := .agg (tabA lG0)) rfl rfl ?_ ?_; exact runG0 (by exact Kd.C_keep (⟨#[]⟩ : ByteArray) hrG0.out (by exact ai) hfG0)))
    go_loopw [6, 24] (fun vn v wr => ∃ i : Nat, vn = .int .i64 0 ∧ v = .int .i64 (i : Int) ∧ i ≤ 22 ∧ Aside0 (TokW w0 w g s p wr)) (fun _ v _ => 22 - (intOf v).toNat)
    case atStart => exact ⟨0, rfl, rfl, Nat.zero_le _, ⟨by (repeat apply TokW.drewN); exact tokW_start HI.out HB.out⟩⟩
    case round =>
      obtain ⟨i, rfl, rfl, hij, HT⟩ := hrel
      have a0 := blk_cell HT.out.a 0
      have a1 := blk_cell HT.out.a 1
      have a2 := blk_cell HT.out.a 2
      have a3 := blk_cell HT.out.a 3
      have b0 := blk_cell HT.out.b 0
      have b1 := blk_cell HT.out.b 1
      have b2 := blk_cell HT.out.b 2
      have b3 := blk_cell HT.out.b 3
      have f0 := fun j => blk_frozen HT.out.a j
      have f1 := fun j => blk_frozen HT.out.b j
      simp only [List.getElem?_toArray, List.getElem?_cons_zero, List.getElem?_cons_succ] at a0 a1 a2 a3 b0 b1 b2 b3
      have hI2 := Aside0.mk HT.out.i
      have hB2 := Aside0.mk HT.out.l
      have hK2 := Aside0.mk HT.out.k
      have d00 := cellS44_0 HT.out.i.1
      have d01 := cellS44_1 HT.out.i.1
      clear hc0 hc1
      have hi0 : 0 ≤ (i : Int) := by omega
      have e0 : IntKind.i64.wrap ((s.size : Int) - (p : Int)) = (s.size : Int) - (p : Int) := by rw [i64_w]; unfold wrap64; omega
      by_cases hlt : i < 22
      · have hi1 : (i : Int) < (22 : Nat) := by omega
        have hi2 := eq_true (show (i : Int) < 22 by omega)
        have hno := hno.out i hlt
        by_cases hsz : (rdOf ByteArray.empty lG0 (i : Int)).size ≤ s.size - p
        · have hne := beq_eq_false_iff_ne.mpr (fun e => hno ⟨hsz, e⟩)
          clear hno
          have c1 := eq_true (show ((rdOf ByteArray.empty lG0 (i : Int)).size : Int) ≤ (s.size : Int) - (p : Int) by omega)
          have c2 := eq_true (show (p : Int) + ((rdOf ByteArray.empty lG0 (i : Int)).size : Int) ≤ (s.size : Int) by omega)
          have c3 := eq_true (show (p : Int) ≤ (p : Int) + ((rdOf ByteArray.empty lG0 (i : Int)).size : Int) by omega)
          have e9 : IntKind.i64.wrap ((p : Int) + ((rdOf ByteArray.empty lG0 (i : Int)).size : Int)) = (p : Int) + ((rdOf ByteArray.empty lG0 (i : Int)).size : Int) := by rw [i64_w]; unfold wrap64; omega
          have e3 : ((p : Int) + ((rdOf ByteArray.empty lG0 (i : Int)).size : Int)).toNat = p + (rdOf ByteArray.empty lG0 (i : Int)).size := by omega
          go_wp2_with (first | ((with_reducible refine gate_list ?_); refine wpList_index_tab (ty := 52) (l := lG0) (i := (i : Int)) rfl rfl ?_ ?_ Tryd.underlying52 ?_ ?_ ?_ ?_ ?_; kernel_rfl; kernel_rfl; exact lG0_len; exact lG0_E; exact hi0; exact hi1))
          go_quiet (fail)
          go_wp2
          go_roundw
          case rel => exact ⟨i + 1, rfl, by go_num, by omega, ⟨HT.out.up (by exact Up.out)⟩⟩
          case measure => simp [intOf]; omega
        · clear hno
          have c1 := eq_false (show ¬ ((rdOf ByteArray.empty lG0 (i : Int)).size : Int) ≤ (s.size : Int) - (p : Int) by omega)
          go_wp2_with (first | ((with_reducible refine gate_list ?_); refine wpList_index_tab (ty := 52) (l := lG0) (i := (i : Int)) rfl rfl ?_ ?_ Tryd.underlying52 ?_ ?_ ?_ ?_ ?_; kernel_rfl; kernel_rfl; exact lG0_len; exact lG0_E; exact hi0; exact hi1))
          go_quiet (fail)
          go_wp2
          go_roundw
          case rel => exact ⟨i + 1, rfl, by go_num, by omega, ⟨HT.out.up (by exact Up.out)⟩⟩
          case measure => simp [intOf]; omega
      · obtain rfl : i = 22 := by omega
        clear hlt
        have hi2 := eq_false (show ¬ ((22 : Nat) : Int) < 22 by omega)
        go_wp2
        rw [Exit.noGoto_normal]
        go_wp2
        all_goals
          refine bodyPost_ret (v := .tuple #[.agg #[.int .i64 0, .string ⟨#[]⟩, .int .i64 0, .int .i64 (p : Int)], .int .i64 0]) (by simp [results, Tryd.results24, go_sem, a0, a1, a2, a3, b0, b1, b2, b3]) rfl ?_
          exact ⟨rfl, ai, ai, ai⟩
  · clear hq
    have e1 := eq_false (show ¬ (p : Int) + 1 < (s.size : Int) by omega)
    have e0 : IntKind.i64.wrap ((p : Int) + 1) = (p : Int) + 1 := by rw [i64_w]; unfold wrap64; omega
    have e3 : ((p : Int) + 1).toNat = p + 1 := by omega
    go_quiet (fail)
    clear e0 e3
    go_wp2
    go_step3
    go_wp2
    go_step3
    go_wp2_with (first | ((with_reducible refine gate_list ?_); refine wpList_load_glob (g := 0) (ty := 52) (v := .agg (tabA lG0)) rfl rfl ?_ ?_; exact runG0 (by exact Kd.C_keep (⟨#[]⟩ : ByteArray) hrG0.out (by exact ai) hfG0)))
    go_loopw [6, 24] (fun vn v wr => ∃ i : Nat, vn = .int .i64 0 ∧ v = .int .i64 (i : Int) ∧ i ≤ 22 ∧ Aside0 (TokW w0 w g s p wr)) (fun _ v _ => 22 - (intOf v).toNat)
    case atStart => exact ⟨0, rfl, rfl, Nat.zero_le _, ⟨by (repeat apply TokW.drewN); exact tokW_start HI.out HB.out⟩⟩
    case round =>
      obtain ⟨i, rfl, rfl, hij, HT⟩ := hrel
      have a0 := blk_cell HT.out.a 0
      have a1 := blk_cell HT.out.a 1
      have a2 := blk_cell HT.out.a 2
      have a3 := blk_cell HT.out.a 3
      have b0 := blk_cell HT.out.b 0
      have b1 := blk_cell HT.out.b 1
      have b2 := blk_cell HT.out.b 2
      have b3 := blk_cell HT.out.b 3
      have f0 := fun j => blk_frozen HT.out.a j
      have f1 := fun j => blk_frozen HT.out.b j
      simp only [List.getElem?_toArray, List.getElem?_cons_zero, List.getElem?_cons_succ] at a0 a1 a2 a3 b0 b1 b2 b3
      have hI2 := Aside0.mk HT.out.i
      have hB2 := Aside0.mk HT.out.l
      have hK2 := Aside0.mk HT.out.k
      have d00 := cellS44_0 HT.out.i.1
      have d01 := cellS44_1 HT.out.i.1
      clear hc0 hc1
      have hi0 : 0 ≤ (i : Int) := by omega
      have e0 : IntKind.i64.wrap ((s.size : Int) - (p : Int)) = (s.size : Int) - (p : Int) := by rw [i64_w]; unfold wrap64; omega
      by_cases hlt : i < 22
      · have hi1 : (i : Int) < (22 : Nat) := by omega
        have hi2 := eq_true (show (i : Int) < 22 by omega)
        have hno := hno.out i hlt
        by_cases hsz : (rdOf ByteArray.empty lG0 (i : Int)).size ≤ s.size - p
        · have hne := beq_eq_false_iff_ne.mpr (fun e => hno ⟨hsz, e⟩)
          clear hno
          have c1 := eq_true (show ((rdOf ByteArray.empty lG0 (i : Int)).size : Int) ≤ (s.size : Int) - (p : Int) by omega)
          have c2 := eq_true (show (p : Int) + ((rdOf ByteArray.empty lG0 (i : Int)).size : Int) ≤ (s.size : Int) by omega)
          have c3 := eq_true (show (p : Int) ≤ (p : Int) + ((rdOf ByteArray.empty lG0 (i : Int)).size : Int) by omega)
          have e9 : IntKind.i64.wrap ((p : Int) + ((rdOf ByteArray.empty lG0 (i : Int)).size : Int)) = (p : Int) + ((rdOf ByteArray.empty lG0 (i : Int)).size : Int) := by rw [i64_w]; unfold wrap64; omega
          have e3 : ((p : Int) + ((rdOf ByteArray.empty lG0 (i : Int)).size : Int)).toNat = p + (rdOf ByteArray.empty lG0 (i : Int)).size := by omega
          go_wp2_with (first | ((with_reducible refine gate_list ?_); refine wpList_index_tab (ty := 52) (l := lG0) (i := (i : Int)) rfl rfl ?_ ?_ Tryd.underlying52 ?_ ?_ ?_ ?_ ?_; kernel_rfl; kernel_rfl; exact lG0_len; exact lG0_E; exact hi0; exact hi1))
          go_quiet (fail)
          go_wp2
          go_roundw
          case rel => exact ⟨i + 1, rfl, by go_num, by omega, ⟨HT.out.up (by exact Up.out)⟩⟩
          case measure => simp [intOf]; omega
        · clear hno
          have c1 := eq_false (show ¬ ((rdOf ByteArray.empty lG0 (i : Int)).size : Int) ≤ (s.size : Int) - (p : Int) by omega)
          go_wp2_with (first | ((with_reducible refine gate_list ?_); refine wpList_index_tab (ty := 52) (l := lG0) (i := (i : Int)) rfl rfl ?_ ?_ Tryd.underlying52 ?_ ?_ ?_ ?_ ?_; kernel_rfl; kernel_rfl; exact lG0_len; exact lG0_E; exact hi0; exact hi1))
          go_quiet (fail)
          go_wp2
          go_roundw
          case rel => exact ⟨i + 1, rfl, by go_num, by omega, ⟨HT.out.up (by exact Up.out)⟩⟩
          case measure => simp [intOf]; omega
      · obtain rfl : i = 22 := by omega
        clear hlt
        have hi2 := eq_false (show ¬ ((22 : Nat) : Int) < 22 by omega)
        go_wp2
        rw [Exit.noGoto_normal]
        go_wp2
        all_goals
          refine bodyPost_ret (v := .tuple #[.agg #[.int .i64 0, .string ⟨#[]⟩, .int .i64 0, .int .i64 (p : Int)], .int .i64 0]) (by simp [results, Tryd.results24, go_sem, a0, a1, a2, a3, b0, b1, b2, b3]) rfl ?_
          exact ⟨rfl, ai, ai, ai⟩
  · clear hq
    have hx2 : ∀ h : p + 1 < s.size, ((s[p + 1]'h).toNat : Int) = bt s ((p : Int) + 1) := fun h => by rw [show (p : Int) + 1 = ((p + 1 : Nat) : Int) from rfl]; simp only [bt, Int.toNat_natCast]; rw [dif_pos h]
    have e1 := eq_true (show (p : Int) + 1 < (s.size : Int) by omega)
    have e2 := eq_true (show 0 ≤ (p : Int) + 1 by omega)
    have e0 : IntKind.i64.wrap ((p : Int) + 1) = (p : Int) + 1 := by rw [i64_w]; unfold wrap64; omega
    have e3 : ((p : Int) + 1).toNat = p + 1 := by omega
    go_quiet (first | (go_at_call 29; (with_reducible refine (lex_low.calls (bt s ((p : Int) + 1)) false _ hl2.out).mono ?_); rintro e w' ⟨rfl, ⟨nd, rfl⟩⟩; (try first | exact ⟨rfl, _, World.drewN_drewN _ _ _⟩ | exact ⟨rfl, _, Eq.trans (World.drewN_drewN _ _ _) (congrArg (World.drewN _) (Nat.add_assoc _ _ _))⟩)))
    clear e0 e3 hx2
    go_wp2
    go_step3
    go_wp2
    go_step3
    go_wp2_with (first | ((with_reducible refine gate_list ?_); refine wpList_load_glob (g := 0) (ty := 52) (v := .agg (tabA lG0)) rfl rfl ?_ ?_; exact runG0 (by exact Kd.C_keep (⟨#[]⟩ : ByteArray) hrG0.out (by exact ai) hfG0)))
    go_loopw [6, 24] (fun vn v wr => ∃ i : Nat, vn = .int .i64 0 ∧ v = .int .i64 (i : Int) ∧ i ≤ 22 ∧ Aside0 (TokW w0 w g s p wr)) (fun _ v _ => 22 - (intOf v).toNat)
    case atStart => exact ⟨0, rfl, rfl, Nat.zero_le _, ⟨by (repeat apply TokW.drewN); exact tokW_start HI.out HB.out⟩⟩
    case round =>
      obtain ⟨i, rfl, rfl, hij, HT⟩ := hrel
      have a0 := blk_cell HT.out.a 0
      have a1 := blk_cell HT.out.a 1
      have a2 := blk_cell HT.out.a 2
      have a3 := blk_cell HT.out.a 3
      have b0 := blk_cell HT.out.b 0
      have b1 := blk_cell HT.out.b 1
      have b2 := blk_cell HT.out.b 2
      have b3 := blk_cell HT.out.b 3
      have f0 := fun j => blk_frozen HT.out.a j
      have f1 := fun j => blk_frozen HT.out.b j
      simp only [List.getElem?_toArray, List.getElem?_cons_zero, List.getElem?_cons_succ] at a0 a1 a2 a3 b0 b1 b2 b3
      have hI2 := Aside0.mk HT.out.i
      have hB2 := Aside0.mk HT.out.l
      have hK2 := Aside0.mk HT.out.k
      have d00 := cellS44_0 HT.out.i.1
      have d01 := cellS44_1 HT.out.i.1
      clear hc0 hc1
      have hi0 : 0 ≤ (i : Int) := by omega
      have e0 : IntKind.i64.wrap ((s.size : Int) - (p : Int)) = (s.size : Int) - (p : Int) := by rw [i64_w]; unfold wrap64; omega
      by_cases hlt : i < 22
      · have hi1 : (i : Int) < (22 : Nat) := by omega
        have hi2 := eq_true (show (i : Int) < 22 by omega)
        have hno := hno.out i hlt
        by_cases hsz : (rdOf ByteArray.empty lG0 (i : Int)).size ≤ s.size - p
        · have hne := beq_eq_false_iff_ne.mpr (fun e => hno ⟨hsz, e⟩)
          clear hno
          have c1 := eq_true (show ((rdOf ByteArray.empty lG0 (i : Int)).size : Int) ≤ (s.size : Int) - (p : Int) by omega)
          have c2 := eq_true (show (p : Int) + ((rdOf ByteArray.empty lG0 (i : Int)).size : Int) ≤ (s.size : Int) by omega)
          have c3 := eq_true (show (p : Int) ≤ (p : Int) + ((rdOf ByteArray.empty lG0 (i : Int)).size : Int) by omega)
          have e9 : IntKind.i64.wrap ((p : Int) + ((rdOf ByteArray.empty lG0 (i : Int)).size : Int)) = (p : Int) + ((rdOf ByteArray.empty lG0 (i : Int)).size : Int) := by rw [i64_w]; unfold wrap64; omega
          have e3 : ((p : Int) + ((rdOf ByteArray.empty lG0 (i : Int)).size : Int)).toNat = p + (rdOf ByteArray.empty lG0 (i : Int)).size := by omega
          go_wp2_with (first | ((with_reducible refine gate_list ?_); refine wpList_index_tab (ty := 52) (l := lG0) (i := (i : Int)) rfl rfl ?_ ?_ Tryd.underlying52 ?_ ?_ ?_ ?_ ?_; kernel_rfl; kernel_rfl; exact lG0_len; exact lG0_E; exact hi0; exact hi1))
          go_quiet (fail)
          go_wp2
          go_roundw
          case rel => exact ⟨i + 1, rfl, by go_num, by omega, ⟨HT.out.up (by exact Up.out)⟩⟩
          case measure => simp [intOf]; omega
        · clear hno
          have c1 := eq_false (show ¬ ((rdOf ByteArray.empty lG0 (i : Int)).size : Int) ≤ (s.size : Int) - (p : Int) by omega)
          go_wp2_with (first | ((with_reducible refine gate_list ?_); refine wpList_index_tab (ty := 52) (l := lG0) (i := (i : Int)) rfl rfl ?_ ?_ Tryd.underlying52 ?_ ?_ ?_ ?_ ?_; kernel_rfl; kernel_rfl; exact lG0_len; exact lG0_E; exact hi0; exact hi1))
          go_quiet (fail)
          go_wp2
          go_roundw
          case rel => exact ⟨i + 1, rfl, by go_num, by omega, ⟨HT.out.up (by exact Up.out)⟩⟩
          case measure => simp [intOf]; omega
      · obtain rfl : i = 22 := by omega
        clear hlt
        have hi2 := eq_false (show ¬ ((22 : Nat) : Int) < 22 by omega)
        go_wp2
        rw [Exit.noGoto_normal]
        go_wp2
        all_goals
          refine bodyPost_ret (v := .tuple #[.agg #[.int .i64 0, .string ⟨#[]⟩, .int .i64 0, .int .i64 (p : Int)], .int .i64 0]) (by simp [results, Tryd.results24, go_sem, a0, a1, a2, a3, b0, b1, b2, b3]) rfl ?_
          exact ⟨rfl, ai, ai, ai⟩

set_option maxHeartbeats 4000000 in
set_option maxRecDepth 100000 in
theorem tok_sign (k : Nat) (g : Nat) (s : ByteArray) (p : Nat) (j : Nat) (w0 w : World) (hc0 : w.cell? ⟨g, 0, none⟩ = some (.string s)) (hc1 : w.cell? ⟨g, 1, none⟩ = some (.int .i64 (p : Int))) (hg : g < w.heap.size)
    (HI : Aside0 (IsS44 w0 w g s p)) (HB : Aside0 (Below w0.heap.size w0 w)) (hp : p < s.size) (hd : Aside0 (lex_digit.f (bt s p) = some false)) (h34 : (bt s p == 34) = false) (hlo : Aside0 (lex_low.f (bt s p) = some false)) (hhi : Aside0 (lex_high.f (bt s p) = some false)) (hs : s.size ≤ 140737488351232) (hq : Aside0 ((bt s p == 39) = false ∨ (bt s p == 39) = true ∧ ¬ p + 1 < s.size ∨ (bt s p == 39) = true ∧ p + 1 < s.size ∧ Aside0 (lex_low.f (bt s ((p : Int) + 1)) = some false))) (hrG0 : Aside0 (Kd.C Kd.string w AG0 lG0.length lG0)) (hfG0 : ∀ ad, AG0 = some ad → 0 < lG0.length → ad.block ≠ g) (hj : j < 22) (hno : Aside0 (∀ i, i < j → ¬ Mt s p i)) (hyes : Aside0 (Mt s p j)) :
    Calls Tryd.prog 24 #[.pointer (some ⟨g, 0, none⟩)] w (TokPost w0 w g s p 7 (rdOf ByteArray.empty lG0 (j : Int)) 0 p (rdOf ByteArray.empty lG0 (j : Int)).size) := by
  have hu32 := Tryd.underlying32
  have hx : ∀ h : p < s.size, ((s[p]'h).toNat : Int) = bt s p := fun h => by simp [bt, h]
  have p4 := eq_true (show 0 ≤ (p : Int) by omega)
  have q4 := eq_true (show (p : Int) < (s.size : Int) by omega)
  have N0 := Aside0.mk (show g ≠ w.heap.size by omega)
  have N1 := Aside0.mk (show g ≠ w.heap.size + 1 by omega)
  have K0 := Aside0.mk (KeepBut.refl w g none)
  have K1 := Aside0.mk (show w.heap.size ≤ w.heap.size + 1 by omega)
  have K2 := Aside0.mk (Nat.le_refl w.heap.size)
  have B0 := Aside0.mk HB.out.size
  have B1 := Aside0.mk (show w0.heap.size ≤ w.heap.size + 1 from Nat.le_succ_of_le HB.out.size)
  go_enter Tryd.func24, Tryd.ntmps24
  go_wp2
  go_quiet (fail)
  go_wp2_with (first | (go_at_call 38; (with_reducible refine (lex_digit.calls (bt s p) false _ hd.out).mono ?_); rintro e w' ⟨rfl, ⟨nd, rfl⟩⟩) | (go_at_call 29; (with_reducible refine (lex_low.calls (bt s p) false _ hlo.out).mono ?_); rintro e w' ⟨rfl, ⟨nd, rfl⟩⟩) | (go_at_call 31; (with_reducible refine (lex_high.calls (bt s p) false _ hhi.out).mono ?_); rintro e w' ⟨rfl, ⟨nd, rfl⟩⟩))
  repeat (go_quiet (first | (go_at_call 29; (with_reducible refine (lex_low.calls (bt s p) false _ hlo.out).mono ?_); rintro e w' ⟨rfl, ⟨nd, rfl⟩⟩) | (go_at_call 31; (with_reducible refine (lex_high.calls (bt s p) false _ hhi.out).mono ?_); rintro e w' ⟨rfl, ⟨nd, rfl⟩⟩)); try go_wp2_with (first | (go_at_call 29; (with_reducible refine (lex_low.calls (bt s p) false _ hlo.out).mono ?_); rintro e w' ⟨rfl, ⟨nd, rfl⟩⟩) | (go_at_call 31; (with_reducible refine (lex_high.calls (bt s p) false _ hhi.out).mono ?_); rintro e w' ⟨rfl, ⟨nd, rfl⟩⟩)))
  rcases hq.out with h39 | ⟨h39, h1⟩ | ⟨h39, h1, hl2⟩
  · clear hq
    go_quiet (fail)
    go_wp2
    go_step3
    go_wp2
    go_step3
    go_wp2_with (first | ((with_reducible refine gate_list ?_); refine wpList_load_glob (g := 0) (ty := 52) (v := .agg (tabA lG0)) rfl rfl ?_ ?_; exact runG0 (by exact Kd.C_keep (⟨#[]⟩ : ByteArray) hrG0.out (by exact ai) hfG0)))
    go_loopw [6, 24] (fun vn v wr => ∃ i : Nat, vn = .int .i64 0 ∧ v = .int .i64 (i : Int) ∧ i ≤ j ∧ Aside0 (TokW w0 w g s p wr)) (fun _ v _ => 22 - (intOf v).toNat)
    case atStart => exact ⟨0, rfl, rfl, Nat.zero_le _, ⟨by (repeat apply TokW.drewN); exact tokW_start HI.out HB.out⟩⟩
    case round =>
      obtain ⟨i, rfl, rfl, hij, HT⟩ := hrel
      have a0 := blk_cell HT.out.a 0
      have a1 := blk_cell HT.out.a 1
      have a2 := blk_cell HT.out.a 2
      have a3 := blk_cell HT.out.a 3
      have b0 := blk_cell HT.out.b 0
      have b1 := blk_cell HT.out.b 1
      have b2 := blk_cell HT.out.b 2
      have b3 := blk_cell HT.out.b 3
      have f0 := fun j => blk_frozen HT.out.a j
      have f1 := fun j => blk_frozen HT.out.b j
      simp only [List.getElem?_toArray, List.getElem?_cons_zero, List.getElem?_cons_succ] at a0 a1 a2 a3 b0 b1 b2 b3
      have hI2 := Aside0.mk HT.out.i
      have hB2 := Aside0.mk HT.out.l
      have hK2 := Aside0.mk HT.out.k
      have d00 := cellS44_0 HT.out.i.1
      have d01 := cellS44_1 HT.out.i.1
      clear hc0 hc1
      have hi0 : 0 ≤ (i : Int) := by omega
      have e0 : IntKind.i64.wrap ((s.size : Int) - (p : Int)) = (s.size : Int) - (p : Int) := by rw [i64_w]; unfold wrap64; omega
      by_cases hlt : i < j
      · have hi1 : (i : Int) < (22 : Nat) := by omega
        have hi2 := eq_true (show (i : Int) < 22 by omega)
        have hno := hno.out i hlt
        by_cases hsz : (rdOf ByteArray.empty lG0 (i : Int)).size ≤ s.size - p
        · have hne := beq_eq_false_iff_ne.mpr (fun e => hno ⟨hsz, e⟩)
          clear hno
          have c1 := eq_true (show ((rdOf ByteArray.empty lG0 (i : Int)).size : Int) ≤ (s.size : Int) - (p : Int) by omega)
          have c2 := eq_true (show (p : Int) + ((rdOf ByteArray.empty lG0 (i : Int)).size : Int) ≤ (s.size : Int) by omega)
          have c3 := eq_true (show (p : Int) ≤ (p : Int) + ((rdOf ByteArray.empty lG0 (i : Int)).size : Int) by omega)
          have e9 : IntKind.i64.wrap ((p : Int) + ((rdOf ByteArray.empty lG0 (i : Int)).size : Int)) = (p : Int) + ((rdOf ByteArray.empty lG0 (i : Int)).size : Int) := by rw [i64_w]; unfold wrap64; omega
          have e3 : ((p : Int) + ((rdOf ByteArray.empty lG0 (i : Int)).size : Int)).toNat = p + (rdOf ByteArray.empty lG0 (i : Int)).size := by omega
          go_wp2_with (first | ((with_reducible refine gate_list ?_); refine wpList_index_tab (ty := 52) (l := lG0) (i := (i : Int)) rfl rfl ?_ ?_ Tryd.underlying52 ?_ ?_ ?_ ?_ ?_; kernel_rfl; kernel_rfl; exact lG0_len; exact lG0_E; exact hi0; exact hi1))
          go_quiet (fail)
          go_wp2
          go_roundw
          case rel => exact ⟨i + 1, rfl, by go_num, by omega, ⟨HT.out.up (by exact Up.out)⟩⟩
          case measure => simp [intOf]; omega
        · clear hno
          have c1 := eq_false (show ¬ ((rdOf ByteArray.empty lG0 (i : Int)).size : Int) ≤ (s.size : Int) - (p : Int) by omega)
          go_wp2_with (first | ((with_reducible refine gate_list ?_); refine wpList_index_tab (ty := 52) (l := lG0) (i := (i : Int)) rfl rfl ?_ ?_ Tryd.underlying52 ?_ ?_ ?_ ?_ ?_; kernel_rfl; kernel_rfl; exact lG0_len; exact lG0_E; exact hi0; exact hi1))
          go_quiet (fail)
          go_wp2
          go_roundw
          case rel => exact ⟨i + 1, rfl, by go_num, by omega, ⟨HT.out.up (by exact Up.out)⟩⟩
          case measure => simp [intOf]; omega
      · obtain rfl : i = j := by omega
        clear hlt
        have hi1 : (i : Int) < (22 : Nat) := by omega
        have hi2 := eq_true (show (i : Int) < 22 by omega)
        have hsz := hyes.out.1
        have heq := beq_iff_eq.mpr hyes.out.2
        have c1 := eq_true (show ((rdOf ByteArray.empty lG0 (i : Int)).size : Int) ≤ (s.size : Int) - (p : Int) by omega)
        have c2 := eq_true (show (p : Int) + ((rdOf ByteArray.empty lG0 (i : Int)).size : Int) ≤ (s.size : Int) by omega)
        have c3 := eq_true (show (p : Int) ≤ (p : Int) + ((rdOf ByteArray.empty lG0 (i : Int)).size : Int) by omega)
        have e9 : IntKind.i64.wrap ((p : Int) + ((rdOf ByteArray.empty lG0 (i : Int)).size : Int)) = (p : Int) + ((rdOf ByteArray.empty lG0 (i : Int)).size : Int) := by rw [i64_w]; unfold wrap64; omega
        have e3 : ((p : Int) + ((rdOf ByteArray.empty lG0 (i : Int)).size : Int)).toNat = p + (rdOf ByteArray.empty lG0 (i : Int)).size := by omega
        go_wp2_with (first | ((with_reducible refine gate_list ?_); refine wpList_index_tab (ty := 52) (l := lG0) (i := (i : Int)) rfl rfl ?_ ?_ Tryd.underlying52 ?_ ?_ ?_ ?_ ?_; kernel_rfl; kernel_rfl; exact lG0_len; exact lG0_E; exact hi0; exact hi1))
        go_quiet (fail)
        go_wp2
        rw [Exit.noGoto_normal]
        go_wp2
        all_goals
          refine bodyPost_ret (v := .tuple #[.agg #[.int .i64 7, .string (rdOf ByteArray.empty lG0 (i : Int)), .int .i64 0, .int .i64 (p : Int)], .int .i64 ((rdOf ByteArray.empty lG0 (i : Int)).size : Int)]) (by simp [results, Tryd.results24, go_sem, a0, a1, a2, a3, b0, b1, b2, b3]) rfl ?_
          exact ⟨rfl, ai, ai, ai⟩
  · clear hq
    have e1 := eq_false (show ¬ (p : Int) + 1 < (s.size : Int) by omega)
    have e0 : IntKind.i64.wrap ((p : Int) + 1) = (p : Int) + 1 := by rw [i64_w]; unfold wrap64; omega
    have e3 : ((p : Int) + 1).toNat = p + 1 := by omega
    go_quiet (fail)
    clear e0 e3
    go_wp2
    go_step3
    go_wp2
    go_step3
    go_wp2_with (first | ((with_reducible refine gate_list ?_); refine wpList_load_glob (g := 0) (ty := 52) (v := .agg (tabA lG0)) rfl rfl ?_ ?_; exact runG0 (by exact Kd.C_keep (⟨#[]⟩ : ByteArray) hrG0.out (by exact ai) hfG0)))
    go_loopw [6, 24] (fun vn v wr => ∃ i : Nat, vn = .int .i64 0 ∧ v = .int .i64 (i : Int) ∧ i ≤ j ∧ Aside0 (TokW w0 w g s p wr)) (fun _ v _ => 22 - (intOf v).toNat)
    case atStart => exact ⟨0, rfl, rfl, Nat.zero_le _, ⟨by (repeat apply TokW.drewN); exact tokW_start HI.out HB.out⟩⟩
    case round =>
      obtain ⟨i, rfl, rfl, hij, HT⟩ := hrel
      have a0 := blk_cell HT.out.a 0
      have a1 := blk_cell HT.out.a 1
      have a2 := blk_cell HT.out.a 2
      have a3 := blk_cell HT.out.a 3
      have b0 := blk_cell HT.out.b 0
      have b1 := blk_cell HT.out.b 1
      have b2 := blk_cell HT.out.b 2
      have b3 := blk_cell HT.out.b 3
      have f0 := fun j => blk_frozen HT.out.a j
      have f1 := fun j => blk_frozen HT.out.b j
      simp only [List.getElem?_toArray, List.getElem?_cons_zero, List.getElem?_cons_succ] at a0 a1 a2 a3 b0 b1 b2 b3
      have hI2 := Aside0.mk HT.out.i
      have hB2 := Aside0.mk HT.out.l
      have hK2 := Aside0.mk HT.out.k
      have d00 := cellS44_0 HT.out.i.1
      have d01 := cellS44_1 HT.out.i.1
      clear hc0 hc1
      have hi0 : 0 ≤ (i : Int) := by omega
      have e0 : IntKind.i64.wrap ((s.size : Int) - (p : Int)) = (s.size : Int) - (p : Int) := by rw [i64_w]; unfold wrap64; omega
      by_cases hlt : i < j
      · have hi1 : (i : Int) < (22 : Nat) := by omega
        have hi2 := eq_true (show (i : Int) < 22 by omega)
        have hno := hno.out i hlt
        by_cases hsz : (rdOf ByteArray.empty lG0 (i : Int)).size ≤ s.size - p
        · have hne := beq_eq_false_iff_ne.mpr (fun e => hno ⟨hsz, e⟩)
          clear hno
          have c1 := eq_true (show ((rdOf ByteArray.empty lG0 (i : Int)).size : Int) ≤ (s.size : Int) - (p : Int) by omega)
          have c2 := eq_true (show (p : Int) + ((rdOf ByteArray.empty lG0 (i : Int)).size : Int) ≤ (s.size : Int) by omega)
          have c3 := eq_true (show (p : Int) ≤ (p : Int) + ((rdOf ByteArray.empty lG0 (i : Int)).size : Int) by omega)
          have e9 : IntKind.i64.wrap ((p : Int) + ((rdOf ByteArray.empty lG0 (i : Int)).size : Int)) = (p : Int) + ((rdOf ByteArray.empty lG0 (i : Int)).size : Int) := by rw [i64_w]; unfold wrap64; omega
          have e3 : ((p : Int) + ((rdOf ByteArray.empty lG0 (i : Int)).size : Int)).toNat = p + (rdOf ByteArray.empty lG0 (i : Int)).size := by omega
          go_wp2_with (first | ((with_reducible refine gate_list ?_); refine wpList_index_tab (ty := 52) (l := lG0) (i := (i : Int)) rfl rfl ?_ ?_ Tryd.underlying52 ?_ ?_ ?_ ?_ ?_; kernel_rfl; kernel_rfl; exact lG0_len; exact lG0_E; exact hi0; exact hi1))
          go_quiet (fail)
          go_wp2
          go_roundw
          case rel => exact ⟨i + 1, rfl, by go_num, by omega, ⟨HT.out.up (by exact Up.out)⟩⟩
          case measure => simp [intOf]; omega
        · clear hno
          have c1 := eq_false (show ¬ ((rdOf ByteArray.empty lG0 (i : Int)).size : Int) ≤ (s.size : Int) - (p : Int) by omega)
          go_wp2_with (first | ((with_reducible refine gate_list ?_); refine wpList_index_tab (ty := 52) (l := lG0) (i := (i : Int)) rfl rfl ?_ ?_ Tryd.underlying52 ?_ ?_ ?_ ?_ ?_; kernel_rfl; kernel_rfl; exact lG0_len; exact lG0_E; exact hi0; exact hi1))
          go_quiet (fail)
          go_wp2
          go_roundw
          case rel => exact ⟨i + 1, rfl, by go_num, by omega, ⟨HT.out.up (by exact Up.out)⟩⟩
          case measure => simp [intOf]; omega
      · obtain rfl : i = j := by omega
        clear hlt
        have hi1 : (i : Int) < (22 : Nat) := by omega
        have hi2 := eq_true (show (i : Int) < 22 by omega)
        have hsz := hyes.out.1
        have heq := beq_iff_eq.mpr hyes.out.2
        have c1 := eq_true (show ((rdOf ByteArray.empty lG0 (i : Int)).size : Int) ≤ (s.size : Int) - (p : Int) by omega)
        have c2 := eq_true (show (p : Int) + ((rdOf ByteArray.empty lG0 (i : Int)).size : Int) ≤ (s.size : Int) by omega)
        have c3 := eq_true (show (p : Int) ≤ (p : Int) + ((rdOf ByteArray.empty lG0 (i : Int)).size : Int) by omega)
        have e9 : IntKind.i64.wrap ((p : Int) + ((rdOf ByteArray.empty lG0 (i : Int)).size : Int)) = (p : Int) + ((rdOf ByteArray.empty lG0 (i : Int)).size : Int) := by rw [i64_w]; unfold wrap64; omega
        have e3 : ((p : Int) + ((rdOf ByteArray.empty lG0 (i : Int)).size : Int)).toNat = p + (rdOf ByteArray.empty lG0 (i : Int)).size := by omega
        go_wp2_with (first | ((with_reducible refine gate_list ?_); refine wpList_index_tab (ty := 52) (l := lG0) (i := (i : Int)) rfl rfl ?_ ?_ Tryd.underlying52 ?_ ?_ ?_ ?_ ?_; kernel_rfl; kernel_rfl; exact lG0_len; exact lG0_E; exact hi0; exact hi1))
        go_quiet (fail)
        go_wp2
        rw [Exit.noGoto_normal]
        go_wp2
        all_goals
          refine bodyPost_ret (v := .tuple #[.agg #[.int .i64 7, .string (rdOf ByteArray.empty lG0 (i : Int)), .int .i64 0, .int .i64 (p : Int)], .int .i64 ((rdOf ByteArray.empty lG0 (i : Int)).size : Int)]) (by simp [results, Tryd.results24, go_sem, a0, a1, a2, a3, b0, b1, b2, b3]) rfl ?_
          exact ⟨rfl, ai, ai, ai⟩
  · clear hq
    have hx2 : ∀ h : p + 1 < s.size, ((s[p + 1]'h).toNat : Int) = bt s ((p : Int) + 1) := fun h => by rw [show (p : Int) + 1 = ((p + 1 : Nat) : Int) from rfl]; simp only [bt, Int.toNat_natCast]; rw [dif_pos h]
    have e1 := eq_true (show (p : Int) + 1 < (s.size : Int) by omega)
    have e2 := eq_true (show 0 ≤ (p : Int) + 1 by omega)
    have e0 : IntKind.i64.wrap ((p : Int) + 1) = (p : Int) + 1 := by rw [i64_w]; unfold wrap64; omega
    have e3 : ((p : Int) + 1).toNat = p + 1 := by omega
    go_quiet (first | (go_at_call 29; (with_reducible refine (lex_low.calls (bt s ((p : Int) + 1)) false _ hl2.out).mono ?_); rintro e w' ⟨rfl, ⟨nd, rfl⟩⟩; (try first | exact ⟨rfl, _, World.drewN_drewN _ _ _⟩ | exact ⟨rfl, _, Eq.trans (World.drewN_drewN _ _ _) (congrArg (World.drewN _) (Nat.add_assoc _ _ _))⟩)))
    clear e0 e3 hx2
    go_wp2
    go_step3
    go_wp2
    go_step3
    go_wp2_with (first | ((with_reducible refine gate_list ?_); refine wpList_load_glob (g := 0) (ty := 52) (v := .agg (tabA lG0)) rfl rfl ?_ ?_; exact runG0 (by exact Kd.C_keep (⟨#[]⟩ : ByteArray) hrG0.out (by exact ai) hfG0)))
    go_loopw [6, 24] (fun vn v wr => ∃ i : Nat, vn = .int .i64 0 ∧ v = .int .i64 (i : Int) ∧ i ≤ j ∧ Aside0 (TokW w0 w g s p wr)) (fun _ v _ => 22 - (intOf v).toNat)
    case atStart => exact ⟨0, rfl, rfl, Nat.zero_le _, ⟨by (repeat apply TokW.drewN); exact tokW_start HI.out HB.out⟩⟩
    case round =>
      obtain ⟨i, rfl, rfl, hij, HT⟩ := hrel
      have a0 := blk_cell HT.out.a 0
      have a1 := blk_cell HT.out.a 1
      have a2 := blk_cell HT.out.a 2
      have a3 := blk_cell HT.out.a 3
      have b0 := blk_cell HT.out.b 0
      have b1 := blk_cell HT.out.b 1
      have b2 := blk_cell HT.out.b 2
      have b3 := blk_cell HT.out.b 3
      have f0 := fun j => blk_frozen HT.out.a j
      have f1 := fun j => blk_frozen HT.out.b j
      simp only [List.getElem?_toArray, List.getElem?_cons_zero, List.getElem?_cons_succ] at a0 a1 a2 a3 b0 b1 b2 b3
      have hI2 := Aside0.mk HT.out.i
      have hB2 := Aside0.mk HT.out.l
      have hK2 := Aside0.mk HT.out.k
      have d00 := cellS44_0 HT.out.i.1
      have d01 := cellS44_1 HT.out.i.1
      clear hc0 hc1
      have hi0 : 0 ≤ (i : Int) := by omega
      have e0 : IntKind.i64.wrap ((s.size : Int) - (p : Int)) = (s.size : Int) - (p : Int) := by rw [i64_w]; unfold wrap64; omega
      by_cases hlt : i < j
      · have hi1 : (i : Int) < (22 : Nat) := by omega
        have hi2 := eq_true (show (i : Int) < 22 by omega)
        have hno := hno.out i hlt
        by_cases hsz : (rdOf ByteArray.empty lG0 (i : Int)).size ≤ s.size - p
        · have hne := beq_eq_false_iff_ne.mpr (fun e => hno ⟨hsz, e⟩)
          clear hno
          have c1 := eq_true (show ((rdOf ByteArray.empty lG0 (i : Int)).size : Int) ≤ (s.size : Int) - (p : Int) by omega)
          have c2 := eq_true (show (p : Int) + ((rdOf ByteArray.empty lG0 (i : Int)).size : Int) ≤ (s.size : Int) by omega)
          have c3 := eq_true (show (p : Int) ≤ (p : Int) + ((rdOf ByteArray.empty lG0 (i : Int)).size : Int) by omega)
          have e9 : IntKind.i64.wrap ((p : Int) + ((rdOf ByteArray.empty lG0 (i : Int)).size : Int)) = (p : Int) + ((rdOf ByteArray.empty lG0 (i : Int)).size : Int) := by rw [i64_w]; unfold wrap64; omega
          have e3 : ((p : Int) + ((rdOf ByteArray.empty lG0 (i : Int)).size : Int)).toNat = p + (rdOf ByteArray.empty lG0 (i : Int)).size := by omega
          go_wp2_with (first | ((with_reducible refine gate_list ?_); refine wpList_index_tab (ty := 52) (l := lG0) (i := (i : Int)) rfl rfl ?_ ?_ Tryd.underlying52 ?_ ?_ ?_ ?_ ?_; kernel_rfl; kernel_rfl; exact lG0_len; exact lG0_E; exact hi0; exact hi1))
          go_quiet (fail)
          go_wp2
          go_roundw
          case rel => exact ⟨i + 1, rfl, by go_num, by omega, ⟨HT.out.up (by exact Up.out)⟩⟩
          case measure => simp [intOf]; omega
        · clear hno
          have c1 := eq_false (show ¬ ((rdOf ByteArray.empty lG0 (i : Int)).size : Int) ≤ (s.size : Int) - (p : Int) by omega)
          go_wp2_with (first | ((with_reducible refine gate_list ?_); refine wpList_index_tab (ty := 52) (l := lG0) (i := (i : Int)) rfl rfl ?_ ?_ Tryd.underlying52 ?_ ?_ ?_ ?_ ?_; kernel_rfl; kernel_rfl; exact lG0_len; exact lG0_E; exact hi0; exact hi1))
          go_quiet (fail)
          go_wp2
          go_roundw
          case rel => exact ⟨i + 1, rfl, by go_num, by omega, ⟨HT.out.up (by exact Up.out)⟩⟩
          case measure => simp [intOf]; omega
      · obtain rfl : i = j := by omega
        clear hlt
        have hi1 : (i : Int) < (22 : Nat) := by omega
        have hi2 := eq_true (show (i : Int) < 22 by omega)
        have hsz := hyes.out.1
        have heq := beq_iff_eq.mpr hyes.out.2
        have c1 := eq_true (show ((rdOf ByteArray.empty lG0 (i : Int)).size : Int) ≤ (s.size : Int) - (p : Int) by omega)
        have c2 := eq_true (show (p : Int) + ((rdOf ByteArray.empty lG0 (i : Int)).size : Int) ≤ (s.size : Int) by omega)
        have c3 := eq_true (show (p : Int) ≤ (p : Int) + ((rdOf ByteArray.empty lG0 (i : Int)).size : Int) by omega)
        have e9 : IntKind.i64.wrap ((p : Int) + ((rdOf ByteArray.empty lG0 (i : Int)).size : Int)) = (p : Int) + ((rdOf ByteArray.empty lG0 (i : Int)).size : Int) := by rw [i64_w]; unfold wrap64; omega
        have e3 : ((p : Int) + ((rdOf ByteArray.empty lG0 (i : Int)).size : Int)).toNat = p + (rdOf ByteArray.empty lG0 (i : Int)).size := by omega
        go_wp2_with (first | ((with_reducible refine gate_list ?_); refine wpList_index_tab (ty := 52) (l := lG0) (i := (i : Int)) rfl rfl ?_ ?_ Tryd.underlying52 ?_ ?_ ?_ ?_ ?_; kernel_rfl; kernel_rfl; exact lG0_len; exact lG0_E; exact hi0; exact hi1))
        go_quiet (fail)
        go_wp2
        rw [Exit.noGoto_normal]
        go_wp2
        all_goals
          refine bodyPost_ret (v := .tuple #[.agg #[.int .i64 7, .string (rdOf ByteArray.empty lG0 (i : Int)), .int .i64 0, .int .i64 (p : Int)], .int .i64 ((rdOf ByteArray.empty lG0 (i : Int)).size : Int)]) (by simp [results, Tryd.results24, go_sem, a0, a1, a2, a3, b0, b1, b2, b3]) rfl ?_
          exact ⟨rfl, ai, ai, ai⟩

end Go.Proofs.YtnihjlnnllngeaaDoor.PL
