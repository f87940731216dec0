/- The printer's out, and texts put behind it. -/
import Derived.Test.YtfdgoenmdalphaaGreatDoorS18
namespace Go.Proofs.YtfdgoenmdalphaaGreatDoor
open Go.Ev Go.RowKit
noncomputable section
set_option maxRecDepth 100000
set_option linter.unusedVariables false
set_option linter.unusedSimpArgs false
abbrev ptr (b : Nat) : Value := .pointer (some ⟨b, 0, none⟩)
/-- What a printer has written. -/
def Out (bp nx0 : Nat) (H : T OB) (nx : Nat) (r : List UInt8) : Prop :=
  nx0 ≤ bp ∧ bp < nx ∧ ∃ sl, IsB H bp [sl] 102 ∧ BS 5 nx0 H nx r sl ∧ (∀ b n c, sl = .slice (some b) n c → c = unk) ∧ (∀ b o n c, sl = .slice (some ⟨b, o, none⟩) n c → b ≠ bp)
theorem BS.keep {e : TypeId} {nx0 nx nx' : Nat} {H H' : T OB} {r : List UInt8} {sl : Value} (h : BS e nx0 H nx r sl) (hn : nx ≤ nx') (hk : ∀ b l e, b < nx → IsB H b l e → IsB H' b l e) : BS e nx0 H' nx' r sl := by
  rcases h with h | ⟨b, c, h1, h2, h3, h4, h5⟩
  · exact .inl h
  · exact .inr ⟨b, c, h1, by omega, hk _ _ _ h2 h3, h4, h5⟩
theorem Out.keep {bp nx0 nx nx' : Nat} {H H' : T OB} {r : List UInt8} (h : Out bp nx0 H nx r) (hn : nx ≤ nx') (hk : ∀ b l e, b < nx → IsB H b l e → IsB H' b l e) : Out bp nx0 H' nx' r := by
  obtain ⟨h1, h2, sl, h3, h4, h5, h6⟩ := h
  exact ⟨h1, by omega, sl, hk _ _ _ h2 h3, BS.keep h4 hn hk, h5, h6⟩
theorem Out.len {bp nx0 nx : Nat} {H : T OB} {r r' : List UInt8} (h : Out bp nx0 H nx r) (e : r = r') : Out bp nx0 H nx r' := e ▸ h
abbrev Done (bp nx0 : Nat) (r : List UInt8) : Value → T OB → Nat → Prop := fun u H nx => u = .tuple ⟨[]⟩ ∧ Out bp nx0 H nx r
theorem isStr_9 : isStrT P 9 = true := by kernel_rfl
theorem zero_9 : zeroC P 9 = some [.string E0] := by kernel_rfl
theorem w_48_5 {nx0 : Nat} {H0 : T OB} {bp : Nat} (l : List (List UInt8)) (hl : l.length < 1000000) : ∀ (t : List (List UInt8)) (i : Nat) (r : List UInt8) (H : T OB) (nx : Nat), l.drop i = t → i ≤ l.length → r.length + t.flatten.length ≤ 1048576 → Out bp nx0 H nx r → Ag nx0 H0 nx H →
    WqR P pl X (.jump (l48_5 (ptr bp) (rowV 1 (l.map txt)) (i64 (l.length : Int)) (i64 (i : Int)) H nx)) nx0 H0 (Done bp nx0 (r ++ t.flatten)) := by
  intro t
  induction t with
  | nil =>
    intro i r H nx hd hi hlen hO hA
    have hil := drop_nil hd hi
    refine Wq.jmp (q48_5 ..) (fun _ => rfl) ?_
    simp only [oneCell_int, oneCell_str, oneCell_bool, oneCell_row, oneCell_ep, oneCell_nilp, cond_true, cond_false, optK_some, ldV_int, ldV_str, ldV_bool, ldV_row, ldV_ep, ldV_nilp, rdBin_add, rdBin_sub, rdBin_mul, rdBin_lss, rdBin_leq, rdBin_gtr, rdBin_geq, rdBin_eql, rdBin_neq, rdBin_seql, rdBin_sneq, unV_not, bvK_bool, bK_true, bK_false, Bool.not_true, Bool.not_false, Bool.not_not, rdNil_ep, rdNil_ptr, oneCell_sl, ldV_sl, vEq_self, List.length_nil, Int.cast_ofNat_Int, Int.reduceEq, Int.reduceLT, Int.reduceLE, decide_true, decide_false, eq_self, Bool.and_self, fa_25_0, fa_25_1, fa_25_2, fa_25_3, fa_25_4, fa_25_5, fa_67_0, fa_67_1, fa_67_2, fa_67_3, fa_69_0, fa_69_1, fa_69_2, fa_71_0, fa_71_1, fa_71_2, fa_71_3, fa_95_0, fa_95_1, fa_95_2, fa_102_0, fa_125_0, fa_125_1, fa_125_2, fa_125_3, fa_125_4, fa_145_0, fa_145_1, fa_177_0, fa_177_1, fp_25_0, fp_25_1, fp_25_2, fp_25_3, fp_25_4, fp_25_5, fp_67_0, fp_67_1, fp_67_2, fp_67_3, fp_69_0, fp_69_1, fp_69_2, fp_71_0, fp_71_1, fp_71_2, fp_71_3, fp_102_0, fp_125_0, fp_125_1, fp_125_2, fp_125_3, fp_125_4, fp_177_0, fp_177_1, fp_177_2, fp_177_3, ld_2, ld_3, ld_9, ld_22, ld_23, ld_25, ld_30, ld_63, ld_64, ld_65, ld_67, ld_69, ld_71, ld_100, ld_125, ld_141, ld_177, len_9, len_22, lenS_22, lenN_22, len_23, lenS_23, lenN_23, len_30, lenS_30, lenN_30, len_63, lenS_63, lenN_63, len_64, lenS_64, lenN_64, len_65, lenS_65, lenN_65, len_148, lenS_148, lenN_148, len_205, lenS_205, lenN_205, beql_4, pneq_141, pneq0_141, hil, not_lt_len]
    exact Wq.retR hA ⟨rfl, hO.len (by simp)⟩
  | cons x t ih =>
    intro i r H nx hd hi hlen hO hA
    obtain ⟨hg, hlt, hd'⟩ := drop_cons hd
    have hg' : (l.map txt)[i]? = some (txt x) := by simp [hg]
    obtain ⟨h1, h2, sl, h3, h4, h5, h6⟩ := hO
    rw [List.flatten_cons, List.length_append] at hlen
    refine Wq.jmp (q48_5 ..) (fun _ => rfl) ?_
    simp only [oneCell_int, oneCell_str, oneCell_bool, oneCell_row, oneCell_ep, oneCell_nilp, cond_true, cond_false, optK_some, ldV_int, ldV_str, ldV_bool, ldV_row, ldV_ep, ldV_nilp, rdBin_add, rdBin_sub, rdBin_mul, rdBin_lss, rdBin_leq, rdBin_gtr, rdBin_geq, rdBin_eql, rdBin_neq, rdBin_seql, rdBin_sneq, unV_not, bvK_bool, bK_true, bK_false, Bool.not_true, Bool.not_false, Bool.not_not, rdNil_ep, rdNil_ptr, oneCell_sl, ldV_sl, vEq_self, List.length_nil, Int.cast_ofNat_Int, Int.reduceEq, Int.reduceLT, Int.reduceLE, decide_true, decide_false, eq_self, Bool.and_self, fa_25_0, fa_25_1, fa_25_2, fa_25_3, fa_25_4, fa_25_5, fa_67_0, fa_67_1, fa_67_2, fa_67_3, fa_69_0, fa_69_1, fa_69_2, fa_71_0, fa_71_1, fa_71_2, fa_71_3, fa_95_0, fa_95_1, fa_95_2, fa_102_0, fa_125_0, fa_125_1, fa_125_2, fa_125_3, fa_125_4, fa_145_0, fa_145_1, fa_177_0, fa_177_1, fp_25_0, fp_25_1, fp_25_2, fp_25_3, fp_25_4, fp_25_5, fp_67_0, fp_67_1, fp_67_2, fp_67_3, fp_69_0, fp_69_1, fp_69_2, fp_71_0, fp_71_1, fp_71_2, fp_71_3, fp_102_0, fp_125_0, fp_125_1, fp_125_2, fp_125_3, fp_125_4, fp_177_0, fp_177_1, fp_177_2, fp_177_3, ld_2, ld_3, ld_9, ld_22, ld_23, ld_25, ld_30, ld_63, ld_64, ld_65, ld_67, ld_69, ld_71, ld_100, ld_125, ld_141, ld_177, len_9, len_22, lenS_22, lenN_22, len_23, lenS_23, lenN_23, len_30, lenS_30, lenN_30, len_63, lenS_63, lenN_63, len_64, lenS_64, lenN_64, len_65, lenS_65, lenN_65, len_148, lenS_148, lenN_148, len_205, lenS_205, lenN_205, beql_4, pneq_141, pneq0_141, is_lt_len hlt, ix_148 hg', rdLoad_cell h3 agg_100 (off := 0) (u := sl) rfl]
    refine Wq.addT und_100 sz_5 isStr_9 h4 h5 (fun m hm => sm_5' (by omega)) hA fun H1 sl1 nx1 hB1 hc1 hn1 keep hA1 hx1 => ?_
    have h3' : IsB H1 bp [sl] 102 := keep _ _ _ (fun o n c q => h6 _ _ _ _ q rfl) h2 h3
    have hne : ∀ b o n c, sl1 = .slice (some ⟨b, o, none⟩) n c → b ≠ bp := fun b o n c q => by have := hn1 _ _ _ _ q; omega
    have hsl : sl1.cells.toList = [sl1] ∧ oneCell sl1 = true := by
      rcases hB1 with ⟨_, rfl⟩ | ⟨b, c, _, _, _, _, rfl⟩ <;> exact ⟨rfl, rfl⟩
    refine Wq.put h3' sz_100 hsl.1 hsl.2 (by simp) rfl hA1 h1 fun H2 hb2 keep2 hA2 => ?_
    simp only [oneCell_int, oneCell_str, oneCell_bool, oneCell_row, oneCell_ep, oneCell_nilp, cond_true, cond_false, optK_some, ldV_int, ldV_str, ldV_bool, ldV_row, ldV_ep, ldV_nilp, rdBin_add, rdBin_sub, rdBin_mul, rdBin_lss, rdBin_leq, rdBin_gtr, rdBin_geq, rdBin_eql, rdBin_neq, rdBin_seql, rdBin_sneq, unV_not, bvK_bool, bK_true, bK_false, Bool.not_true, Bool.not_false, Bool.not_not, rdNil_ep, rdNil_ptr, oneCell_sl, ldV_sl, vEq_self, List.length_nil, Int.cast_ofNat_Int, Int.reduceEq, Int.reduceLT, Int.reduceLE, decide_true, decide_false, eq_self, Bool.and_self, fa_25_0, fa_25_1, fa_25_2, fa_25_3, fa_25_4, fa_25_5, fa_67_0, fa_67_1, fa_67_2, fa_67_3, fa_69_0, fa_69_1, fa_69_2, fa_71_0, fa_71_1, fa_71_2, fa_71_3, fa_95_0, fa_95_1, fa_95_2, fa_102_0, fa_125_0, fa_125_1, fa_125_2, fa_125_3, fa_125_4, fa_145_0, fa_145_1, fa_177_0, fa_177_1, fp_25_0, fp_25_1, fp_25_2, fp_25_3, fp_25_4, fp_25_5, fp_67_0, fp_67_1, fp_67_2, fp_67_3, fp_69_0, fp_69_1, fp_69_2, fp_71_0, fp_71_1, fp_71_2, fp_71_3, fp_102_0, fp_125_0, fp_125_1, fp_125_2, fp_125_3, fp_125_4, fp_177_0, fp_177_1, fp_177_2, fp_177_3, ld_2, ld_3, ld_9, ld_22, ld_23, ld_25, ld_30, ld_63, ld_64, ld_65, ld_67, ld_69, ld_71, ld_100, ld_125, ld_141, ld_177, len_9, len_22, lenS_22, lenN_22, len_23, lenS_23, lenN_23, len_30, lenS_30, lenN_30, len_63, lenS_63, lenN_63, len_64, lenS_64, lenN_64, len_65, lenS_65, lenN_65, len_148, lenS_148, lenN_148, len_205, lenS_205, lenN_205, beql_4, pneq_141, pneq0_141, wrap_succ (show i < 9223372036854775807 by omega)]
    have hO2 : Out bp nx0 H2 nx1 (r ++ x) := by
      refine ⟨h1, by omega, sl1, hb2, ?_, hc1, hne⟩
      rcases hB1 with h | ⟨b, c, q1, q2, q3, q4, q5⟩
      · exact .inl h
      · exact .inr ⟨b, c, q1, q2, keep2 _ _ _ (hne _ _ _ _ q5) q3, q4, q5⟩
    have := ih (i + 1) (r ++ x) H2 nx1 hd' (by omega) (by rw [List.length_append]; omega) hO2 hA2
    rw [List.append_assoc] at this
    exact this
theorem w_48 {nx0 : Nat} {H0 : T OB} {H : T OB} {nx bp b1 : Nat} {r : List UInt8} (l : List (List UInt8)) (hl : l.length < 1000000) (h1 : IsB H b1 (l.map txt) 9) (hb : nx0 ≤ b1) (hbx : b1 < nx) (hO : Out bp nx0 H b1 r) (hlen : r.length + l.flatten.length ≤ 1048576) (hA : Ag nx0 H0 nx H) :
    WqR P pl X (evT P pl (.call 48 [ptr bp, .slice (some ⟨b1, 0, none⟩) l.length l.length] false none H nx)) nx0 H0 (Done bp nx0 (r ++ l.flatten)) := by
  rw [q48]
  have hch : chunk false 1 l.length (l.map txt) = some (l.map txt) := by
    have := chunk_cells (l.map txt)
    rwa [List.length_map] at this
  refine Wq.frz und_148 sz_9 agg_9 rfl h1 (by simp) (by rw [Nat.ble_eq_true_of_le (Nat.le_refl _), Bool.or_true]) hch (by simp [Ev.bK]) hA hb fun H2 keep hA2 => ?_
  simp only [oneCell_int, oneCell_str, oneCell_bool, oneCell_row, oneCell_ep, oneCell_nilp, cond_true, cond_false, optK_some, ldV_int, ldV_str, ldV_bool, ldV_row, ldV_ep, ldV_nilp, rdBin_add, rdBin_sub, rdBin_mul, rdBin_lss, rdBin_leq, rdBin_gtr, rdBin_geq, rdBin_eql, rdBin_neq, rdBin_seql, rdBin_sneq, unV_not, bvK_bool, bK_true, bK_false, Bool.not_true, Bool.not_false, Bool.not_not, rdNil_ep, rdNil_ptr, oneCell_sl, ldV_sl, vEq_self, List.length_nil, Int.cast_ofNat_Int, Int.reduceEq, Int.reduceLT, Int.reduceLE, decide_true, decide_false, eq_self, Bool.and_self, fa_25_0, fa_25_1, fa_25_2, fa_25_3, fa_25_4, fa_25_5, fa_67_0, fa_67_1, fa_67_2, fa_67_3, fa_69_0, fa_69_1, fa_69_2, fa_71_0, fa_71_1, fa_71_2, fa_71_3, fa_95_0, fa_95_1, fa_95_2, fa_102_0, fa_125_0, fa_125_1, fa_125_2, fa_125_3, fa_125_4, fa_145_0, fa_145_1, fa_177_0, fa_177_1, fp_25_0, fp_25_1, fp_25_2, fp_25_3, fp_25_4, fp_25_5, fp_67_0, fp_67_1, fp_67_2, fp_67_3, fp_69_0, fp_69_1, fp_69_2, fp_71_0, fp_71_1, fp_71_2, fp_71_3, fp_102_0, fp_125_0, fp_125_1, fp_125_2, fp_125_3, fp_125_4, fp_177_0, fp_177_1, fp_177_2, fp_177_3, ld_2, ld_3, ld_9, ld_22, ld_23, ld_25, ld_30, ld_63, ld_64, ld_65, ld_67, ld_69, ld_71, ld_100, ld_125, ld_141, ld_177, len_9, len_22, lenS_22, lenN_22, len_23, lenS_23, lenN_23, len_30, lenS_30, lenN_30, len_63, lenS_63, lenN_63, len_64, lenS_64, lenN_64, len_65, lenS_65, lenN_65, len_148, lenS_148, lenN_148, len_205, lenS_205, lenN_205, beql_4, pneq_141, pneq0_141, List.length_map]
  have := w_48_5 (bp := bp) l hl l 0 r H2 (nx + 1) rfl (Nat.zero_le _) hlen (hO.keep (by omega) fun b l e hlt hi => keep _ _ _ (by omega) hi) hA2
  exact this
/-- Texts that are put. -/
theorem Wq.putL {nx0 : Nat} {H0 : T OB} {H : T OB} {nx bp n : Nat} {r : List UInt8} {R : Value → T OB → Nat → Prop} {k p : Value → T OB → Nat → Q} {vs : List (Nat × Value)} (l : List (List UInt8)) (hn : l.length = n) (hl : l.length < 1000000)
    (hg : (Nat.ble (n * 1) 16777216 && Nat.blt 0 (n * 1) && Nat.blt 0 1) = true) (hf : Instr.fill (fun i => some (i * 1, 1)) (zeroRow [.string E0] (n * 1)) vs = some ⟨l.map txt⟩) (hO : Out bp nx0 H nx r) (hlen : r.length + l.flatten.length ≤ 1048576) (hA : Ag nx0 H0 nx H)
    (hk : ∀ u H' nx', Out bp nx0 H' nx' (r ++ l.flatten) → Ag nx0 H0 nx' H' → WqR P pl X (k u H' nx') nx0 H0 R) :
    WqR P pl X (effQ (efBuildSlice P H nx 148 n (some vs)) fun v H nx => callQ (.call 48 [ptr bp, v] false none H nx) k p) nx0 H0 R := by
  subst hn
  refine Wq.row und_148 sz_9 zero_9 hg hf hA fun H1 hb1 keep hA1 => ?_
  refine Wq.callR rfl (w_48 l hl hb1 hA.1 (by omega) (hO.keep (Nat.le_refl _) keep) hlen hA1) fun u H2 nx2 hA2 hu => ?_
  exact hk _ _ _ hu.2 hA2
end
end Go.Proofs.YtfdgoenmdalphaaGreatDoor
