/- Both texts of a type are one text: the law. -/
import Derived.Test.YtcfpakjillacgaaGreatDoorTE
namespace Go.Proofs.YtcfpakjillacgaaGreatDoor
open Go.Ev Go.RowKit
noncomputable section
set_option maxRecDepth 100000
set_option linter.unusedVariables false
set_option linter.unusedSimpArgs false
theorem two_of {l : List Ty} (h : l.length = 2) : ∃ a b, l = [a, b] := by
  match l, h with
  | [a, b], _ => exact ⟨a, b, rfl⟩
theorem tx_arr {t : Ty} {a b : Ty} (h : isArr t) (hl : t.l = [a, b]) : tx t = bx false a ++ ([32, 45, 62, 32] ++ tx b) := by
  rw [tx_eq, if_neg (by rw [h.1]; decide), if_pos h.1, hl]
  simp only [List.map_cons, List.map_nil, body]
  rw [if_pos ⟨h.2.1, rfl⟩]; rfl
theorem tx_con {t : Ty} (hk : t.k = 2) (h : ¬ isArr t) : tx t = fin (decide (t.n = 6 ∧ 2 ≤ t.l.length)) t.l.length t.name (jn (decide (t.n = 6 ∧ 2 ≤ t.l.length)) (decide (t.l.length = 1)) true t.l) := by
  rw [tx_eq, if_neg (by rw [hk]; decide), if_pos hk]
  exact body_jn _ _ _ (fun q => h ⟨hk, q.1, q.2⟩)
theorem fin_length (tup : Bool) (len : Nat) (name s : List UInt8) (h : len = 0 → s = []) : s.length + (if tup = true then 0 else name.length) ≤ (fin tup len name s).length := by
  unfold fin
  cases tup
  · simp only [Bool.false_eq_true, if_false]
    split
    · rename_i h0; rw [h h0]; simp
    · split <;> simp <;> omega
  · simp
theorem jn_nil {tup one first : Bool} {l : List Ty} (h : l.length = 0) : jn tup one first l = [] := by
  rw [List.length_eq_zero_iff.1 h, jn]
theorem okR_all (t : Ty) : okR t := by
  refine Ty.ind (p := okR) (fun t hp => ?_) t
  intro hs hlen
  have hs0 := hs
  rw [tOk_iff] at hs
  refine Pure.of rfl fun H nx => ?_
  rw [q7]
  refine Wq.natF' (.refl _ _) fun hA => ?_
  have hd := rg_div hs.1
  have hw : w (t.n.tdiv 26) = t.n.tdiv 26 := wrap_id hd
  have dl := dig_length (t.n.tdiv 26) hd
  have L20 : ∀ (a : Bool), t.k = 2 → (a = true ↔ isArr t) → Wq P pl X (.jump (l7_20 (eptrV t.v) a H (nx + 1))) nx H (txt (tx t)) := by
    intro a hk ha
    refine Wq.jmp (q7_20 ..) (fun _ => rfl) ?_
    refine Wq.bK (fun h => ?_) (fun h => ?_)
    · obtain ⟨x, y, hl⟩ := two_of (ha.1 h).2.2
      have e := tx_arr (ha.1 h) hl
      rw [e] at hlen ⊢
      simp only [List.length_append] at hlen
      have hx : x ∈ t.l := by rw [hl]; simp
      have hy : y ∈ t.l := by rw [hl]; simp
      have hbl := bx_length false x
      have px := w_18 x false (hp x hx (hs.2.2.2 x hx) (by omega)) (by omega)
      have py := hp y hy (hs.2.2.2 y hy) (by omega)
      have g0 : (t.l.map Ty.v)[0]? = some x.v := by rw [hl]; rfl
      have g1 : (t.l.map Ty.v)[1]? = some y.v := by rw [hl]; rfl
      rw [x.v_eq] at g0 px
      rw [y.v_eq] at g1 py
      have i0 := ix_22 g0 .i64
      have i1 := ix_22 g1 .i64
      rw [show ((0 : Nat) : Int) = 0 from rfl] at i0
      rw [show ((1 : Nat) : Int) = 1 from rfl] at i1
      simp only [oneCell_int, oneCell_str, oneCell_bool, oneCell_row, oneCell_ep, oneCell_nilp, cond_true, cond_false, optK_some, ldV_int, ldV_str, ldV_bool, ldV_row, ldV_ep, ldV_nilp, rdBin_add, rdBin_sub, rdBin_mul, rdBin_lss, rdBin_leq, rdBin_gtr, rdBin_geq, rdBin_eql, rdBin_neq, rdBin_seql, rdBin_sneq, unV_not, bvK_bool, bK_true, bK_false, Bool.not_true, Bool.not_false, Bool.not_not, rdNil_ep, rdNil_ptr, oneCell_sl, ldV_sl, vEq_self, List.length_nil, Int.cast_ofNat_Int, Int.reduceEq, Int.reduceLT, Int.reduceLE, decide_true, decide_false, eq_self, Bool.and_self, fa_24_0, fa_24_1, fa_24_2, fa_24_3, fp_24_0, fp_24_1, fp_24_2, fp_24_3, ld_3, ld_5, ld_9, ld_22, ld_24, ld_161, len_9, len_22, lenS_22, lenN_22, len_82, lenS_82, lenN_82, t.v_eq, i0, i1]
      refine Wq.call px hA fun H1 nx1 hA1 => ?_
      simp only [oneCell_int, oneCell_str, oneCell_bool, oneCell_row, oneCell_ep, oneCell_nilp, cond_true, cond_false, optK_some, ldV_int, ldV_str, ldV_bool, ldV_row, ldV_ep, ldV_nilp, rdBin_add, rdBin_sub, rdBin_mul, rdBin_lss, rdBin_leq, rdBin_gtr, rdBin_geq, rdBin_eql, rdBin_neq, rdBin_seql, rdBin_sneq, unV_not, bvK_bool, bK_true, bK_false, Bool.not_true, Bool.not_false, Bool.not_not, rdNil_ep, rdNil_ptr, oneCell_sl, ldV_sl, vEq_self, List.length_nil, Int.cast_ofNat_Int, Int.reduceEq, Int.reduceLT, Int.reduceLE, decide_true, decide_false, eq_self, Bool.and_self, fa_24_0, fa_24_1, fa_24_2, fa_24_3, fp_24_0, fp_24_1, fp_24_2, fp_24_3, ld_3, ld_5, ld_9, ld_22, ld_24, ld_161, len_9, len_22, lenS_22, lenN_22, len_82, lenS_82, lenN_82, Bool.and_true]
      rw [rdAdd_txt 9 true _ [32, 45, 62, 32] (by simp; omega), optK_some]
      refine Wq.call py hA1 fun H2 nx2 hA2 => ?_
      rw [rdAdd_txt 9 true _ [32, 45, 62, 32] (by simp; omega)]
      simp only [oneCell_int, oneCell_str, oneCell_bool, oneCell_row, oneCell_ep, oneCell_nilp, cond_true, cond_false, optK_some, ldV_int, ldV_str, ldV_bool, ldV_row, ldV_ep, ldV_nilp, rdBin_add, rdBin_sub, rdBin_mul, rdBin_lss, rdBin_leq, rdBin_gtr, rdBin_geq, rdBin_eql, rdBin_neq, rdBin_seql, rdBin_sneq, unV_not, bvK_bool, bK_true, bK_false, Bool.not_true, Bool.not_false, Bool.not_not, rdNil_ep, rdNil_ptr, oneCell_sl, ldV_sl, vEq_self, List.length_nil, Int.cast_ofNat_Int, Int.reduceEq, Int.reduceLT, Int.reduceLE, decide_true, decide_false, eq_self, Bool.and_self, fa_24_0, fa_24_1, fa_24_2, fa_24_3, fp_24_0, fp_24_1, fp_24_2, fp_24_3, ld_3, ld_5, ld_9, ld_22, ld_24, ld_161, len_9, len_22, lenS_22, lenN_22, len_82, lenS_82, lenN_82, Bool.and_true]
      rw [rdAdd_txt 9 false _ _ (by simp; omega), optK_some]
      exact Wq.retE (by simp) hA2
    · have na : ¬ isArr t := fun q => by rw [ha.2 q] at h; cases h
      have e := tx_con hk na
      have L29 : ∀ tup : Bool, tup = decide (t.n = 6 ∧ 2 ≤ t.l.length) → Wq P pl X (.jump (l7_26 (eptrV t.v) (.string ⟨⟨[]⟩⟩) tup H (nx + 1))) nx H (txt (tx t)) := by
        intro tup ht
        refine Wq.jmp (q7_26 ..) (fun _ => rfl) ?_
        rw [e] at hlen ⊢
        rw [← ht] at hlen ⊢
        have hf := fin_length tup t.l.length t.name (jn tup (decide (t.l.length = 1)) true t.l) (fun h0 => jn_nil h0)
        have := w_7_29 (nx0 := nx) (H0 := H) t hp hs0 tup ht t.l 0 [] H (nx + 1) rfl (Nat.zero_le _) (by simpa using (by omega : (jn tup (decide (t.l.length = 1)) true t.l).length + (if tup = true then 0 else t.name.length) ≤ 1000000)) hA
        simpa using this
      simp only [oneCell_int, oneCell_str, oneCell_bool, oneCell_row, oneCell_ep, oneCell_nilp, cond_true, cond_false, optK_some, ldV_int, ldV_str, ldV_bool, ldV_row, ldV_ep, ldV_nilp, rdBin_add, rdBin_sub, rdBin_mul, rdBin_lss, rdBin_leq, rdBin_gtr, rdBin_geq, rdBin_eql, rdBin_neq, rdBin_seql, rdBin_sneq, unV_not, bvK_bool, bK_true, bK_false, Bool.not_true, Bool.not_false, Bool.not_not, rdNil_ep, rdNil_ptr, oneCell_sl, ldV_sl, vEq_self, List.length_nil, Int.cast_ofNat_Int, Int.reduceEq, Int.reduceLT, Int.reduceLE, decide_true, decide_false, eq_self, Bool.and_self, fa_24_0, fa_24_1, fa_24_2, fa_24_3, fp_24_0, fp_24_1, fp_24_2, fp_24_3, ld_3, ld_5, ld_9, ld_22, ld_24, ld_161, len_9, len_22, lenS_22, lenN_22, len_82, lenS_82, lenN_82, t.v_eq, List.length_map]
      rw [← t.v_eq]
      refine Wq.ite (fun hn => ?_) (fun hn => L29 _ (by simp [hn]))
      exact L29 _ (by rw [decide_eq_decide]; omega)
  have L12 : ∀ (s : List UInt8) H1 nx1, Ag nx H nx1 H1 → Wq P pl X (.jump (l7_12 (txt s) H1 nx1)) nx H (txt s) := by
    intro s H1 nx1 hA1
    refine Wq.jmp (q7_12 ..) (fun _ => rfl) ?_
    exact Wq.ret hA1
  rw [t.v_eq] at L20 ⊢
  simp only [oneCell_int, oneCell_str, oneCell_bool, oneCell_row, oneCell_ep, oneCell_nilp, cond_true, cond_false, optK_some, ldV_int, ldV_str, ldV_bool, ldV_row, ldV_ep, ldV_nilp, rdBin_add, rdBin_sub, rdBin_mul, rdBin_lss, rdBin_leq, rdBin_gtr, rdBin_geq, rdBin_eql, rdBin_neq, rdBin_seql, rdBin_sneq, unV_not, bvK_bool, bK_true, bK_false, Bool.not_true, Bool.not_false, Bool.not_not, rdNil_ep, rdNil_ptr, oneCell_sl, ldV_sl, vEq_self, List.length_nil, Int.cast_ofNat_Int, Int.reduceEq, Int.reduceLT, Int.reduceLE, decide_true, decide_false, eq_self, Bool.and_self, fa_24_0, fa_24_1, fa_24_2, fa_24_3, fp_24_0, fp_24_1, fp_24_2, fp_24_3, ld_3, ld_5, ld_9, ld_22, ld_24, ld_161, len_9, len_22, lenS_22, lenN_22, len_82, lenS_82, lenN_82]
  refine Wq.ite (fun h1 => ?_) (fun h1 => ?_)
  · have e : tx t = var t.n := by rw [tx_eq, if_pos h1]
    have e1 : t.n % 26 = (((t.n % 26).toNat : Nat) : Int) := by omega
    have e2 : IntKind.i64.wrap (t.n % 26 + 1) = t.n % 26 + 1 := wrap_id (by omega)
    refine Wq.call (pu_16 t.n) hA fun H1 nx1 hA1 => ?_
    refine Wq.call (pu_16 t.n) hA1 fun H2 nx2 hA2 => ?_
    simp only [oneCell_int, oneCell_str, oneCell_bool, oneCell_row, oneCell_ep, oneCell_nilp, cond_true, cond_false, optK_some, ldV_int, ldV_str, ldV_bool, ldV_row, ldV_ep, ldV_nilp, rdBin_add, rdBin_sub, rdBin_mul, rdBin_lss, rdBin_leq, rdBin_gtr, rdBin_geq, rdBin_eql, rdBin_neq, rdBin_seql, rdBin_sneq, unV_not, bvK_bool, bK_true, bK_false, Bool.not_true, Bool.not_false, Bool.not_not, rdNil_ep, rdNil_ptr, oneCell_sl, ldV_sl, vEq_self, List.length_nil, Int.cast_ofNat_Int, Int.reduceEq, Int.reduceLT, Int.reduceLE, decide_true, decide_false, eq_self, Bool.and_self, fa_24_0, fa_24_1, fa_24_2, fa_24_3, fp_24_0, fp_24_1, fp_24_2, fp_24_3, ld_3, ld_5, ld_9, ld_22, ld_24, ld_161, len_9, len_22, lenS_22, lenN_22, len_82, lenS_82, lenN_82, e2]
    have al := alpha H2 (t.n % 26).toNat (by omega)
    rw [← e1] at al
    rw [al, optK_some, rdAdd_txt 9 true [39] _ (by simp), optK_some]
    simp only [oneCell_int, oneCell_str, oneCell_bool, oneCell_row, oneCell_ep, oneCell_nilp, cond_true, cond_false, optK_some, ldV_int, ldV_str, ldV_bool, ldV_row, ldV_ep, ldV_nilp, rdBin_add, rdBin_sub, rdBin_mul, rdBin_lss, rdBin_leq, rdBin_gtr, rdBin_geq, rdBin_eql, rdBin_neq, rdBin_seql, rdBin_sneq, unV_not, bvK_bool, bK_true, bK_false, Bool.not_true, Bool.not_false, Bool.not_not, rdNil_ep, rdNil_ptr, oneCell_sl, ldV_sl, vEq_self, List.length_nil, Int.cast_ofNat_Int, Int.reduceEq, Int.reduceLT, Int.reduceLE, decide_true, decide_false, eq_self, Bool.and_self, fa_24_0, fa_24_1, fa_24_2, fa_24_3, fp_24_0, fp_24_1, fp_24_2, fp_24_3, ld_3, ld_5, ld_9, ld_22, ld_24, ld_161, len_9, len_22, lenS_22, lenN_22, len_82, lenS_82, lenN_82, rdBin_quo 3 true .i64 t.n 26 (by omega)]
    rw [e]
    refine Wq.ite (fun h26 => ?_) (fun h26 => ?_)
    · rw [show IntKind.i64.wrap (t.n.tdiv 26) = t.n.tdiv 26 from hw]
      refine Wq.call (pu_17 _ hd) hA2 fun H3 nx3 hA3 => ?_
      rw [rdAdd_txt 9 false _ _ (by simp; omega), optK_some]
      have := L12 (var t.n) _ _ hA3
      unfold var letter at this ⊢
      rw [if_pos h26] at this ⊢
      exact this
    · have := L12 (var t.n) _ _ hA2
      unfold var letter at this ⊢
      rw [if_neg h26] at this ⊢
      exact this
  · refine Wq.bK (fun h => ?_) (fun h => ?_)
    · have hk : t.k ≠ 2 := by simpa using h
      exact Wq.retE (by rw [tx_eq, if_neg h1, if_neg hk]) hA
    · have hk : t.k = 2 := by simpa using h
      simp only [oneCell_int, oneCell_str, oneCell_bool, oneCell_row, oneCell_ep, oneCell_nilp, cond_true, cond_false, optK_some, ldV_int, ldV_str, ldV_bool, ldV_row, ldV_ep, ldV_nilp, rdBin_add, rdBin_sub, rdBin_mul, rdBin_lss, rdBin_leq, rdBin_gtr, rdBin_geq, rdBin_eql, rdBin_neq, rdBin_seql, rdBin_sneq, unV_not, bvK_bool, bK_true, bK_false, Bool.not_true, Bool.not_false, Bool.not_not, rdNil_ep, rdNil_ptr, oneCell_sl, ldV_sl, vEq_self, List.length_nil, Int.cast_ofNat_Int, Int.reduceEq, Int.reduceLT, Int.reduceLE, decide_true, decide_false, eq_self, Bool.and_self, fa_24_0, fa_24_1, fa_24_2, fa_24_3, fp_24_0, fp_24_1, fp_24_2, fp_24_3, ld_3, ld_5, ld_9, ld_22, ld_24, ld_161, len_9, len_22, lenS_22, lenN_22, len_82, lenS_82, lenN_82, List.length_map]
      refine Wq.ite (fun hn => ?_) (fun hn => L20 _ hk (by unfold isArr; simp [hn]))
      exact L20 _ hk (by unfold isArr; rw [decide_eq_true_eq]; omega)
end
end Go.Proofs.YtcfpakjillacgaaGreatDoor
