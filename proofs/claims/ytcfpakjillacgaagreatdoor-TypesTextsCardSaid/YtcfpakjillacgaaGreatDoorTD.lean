/- Both texts of a type are one text. -/
import Derived.Test.YtcfpakjillacgaaGreatDoorTC
namespace Go.Proofs.YtcfpakjillacgaaGreatDoor
open Go.Ev Go.RowKit
noncomputable section
set_option maxRecDepth 100000
set_option linter.unusedVariables false
set_option linter.unusedSimpArgs false
theorem und_3 : P.underlying 3 = some (.int .i64) := by kernel_rfl
theorem cv_3_5 (H : T OB) (n : Int) : rdConv P H 3 5 (some (i64 n)) = some (.int .u8 (IntKind.u8.wrap n)) := rdConv_int und_3 und_5
theorem cv_3_2 (H : T OB) (n : Int) : rdConv P H 3 2 (some (i64 n)) = some (i64 (IntKind.i64.wrap n)) := rdConv_int und_3 und_2
theorem drop_cons {α : Type} {l t : List α} {a : α} {i : Nat} (h : l.drop i = a :: t) : l[i]? = some a ∧ i < l.length ∧ l.drop (i + 1) = t := by
  have hi : i < l.length := by
    apply Classical.byContradiction; intro q
    rw [List.drop_of_length_le (by omega)] at h; cases h
  rw [List.drop_eq_getElem_cons hi] at h
  injection h with h1 h2
  exact ⟨by rw [List.getElem?_eq_getElem hi, h1], hi, h2⟩
theorem drop_nil {α : Type} {l : List α} {i : Nat} (h : l.drop i = []) (hi : i ≤ l.length) : i = l.length := by
  have := congrArg List.length h
  simp at this; omega
theorem rdSlice_one {H : T OB} (es : List Value) (h : 1 ≤ es.length) : rdSlice P H 22 (some (rowV 4 es)) (some (some (.int .i64 1))) (some none) (some none) = some (rowV 4 (es.drop 1)) := by
  have he : elSz P 22 = some 4 := by kernel_rfl
  have e : rdSlice P H 22 (some (rowV 4 es)) (some (some (.int .i64 1))) (some none) (some none) = optK (elSz P 22) (fun z => bif Nat.beq 4 z then slR es 4 1 es.length else none) none := rfl
  rw [e, he, optK_some]
  show (bif Nat.ble 1 es.length && Nat.ble es.length es.length then some (rowV 4 ((es.drop 1).take (es.length - 1))) else none) = _
  rw [Nat.ble_eq_true_of_le h, Nat.ble_eq_true_of_le (Nat.le_refl _), List.take_of_length_le (by simp)]
  rfl
theorem pu_4 (t : Ty) : ∀ (most : Int), tOk t → Pu 4 [t.v, i64 most] (i64 (lt t most)) := by
  refine Ty.ind (p := fun t => ∀ (most : Int), tOk t → Pu 4 [t.v, i64 most] (i64 (lt t most))) (fun t hp most hs => ?_) t
  rw [tOk_iff] at hs
  refine Pure.of rfl fun H nx => ?_
  rw [q4]
  refine Wq.natF' (.refl _ _) fun hA => ?_
  rw [lt_eq]
  refine Wq.each t.l (fun i n H nx => .jump (l4_9 (i64 most) (eptrV t.v) (i64 n) (i64 (i : Int)) H nx)) (fun l n => i64 (ltL l most n)) (fun n H1 nx1 hA => ?_) (fun i c r n H1 nx1 hg hi ht hA ih => ?_) 1 _ _ hA
  · refine Wq.jmp (q4_9 ..) (fun _ => rfl) ?_
    simp only [oneCell_int, oneCell_str, oneCell_bool, oneCell_row, oneCell_ep, oneCell_nilp, cond_true, cond_false, optK_some, ldV_int, ldV_str, ldV_bool, ldV_row, ldV_ep, ldV_nilp, rdBin_add, rdBin_sub, rdBin_mul, rdBin_lss, rdBin_leq, rdBin_gtr, rdBin_geq, rdBin_eql, rdBin_neq, rdBin_seql, rdBin_sneq, unV_not, bvK_bool, bK_true, bK_false, Bool.not_true, Bool.not_false, Bool.not_not, rdNil_ep, rdNil_ptr, oneCell_sl, ldV_sl, vEq_self, List.length_nil, Int.cast_ofNat_Int, Int.reduceEq, Int.reduceLT, Int.reduceLE, decide_true, decide_false, eq_self, Bool.and_self, fa_24_0, fa_24_1, fa_24_2, fa_24_3, fp_24_0, fp_24_1, fp_24_2, fp_24_3, ld_3, ld_5, ld_9, ld_22, ld_24, ld_161, len_9, len_22, lenS_22, lenN_22, len_82, lenS_82, lenN_82, t.v_eq, List.length_map, not_lt_len]
    rw [ltL]
    exact Wq.ret hA
  · have hc : c ∈ t.l := List.mem_of_getElem? hg
    have hg' : (t.l.map Ty.v)[i]? = some c.v := by simp [hg]
    have hcs := (tOk_iff c).1 (hs.2.2.2 c hc)
    have hq := hp c hc (w (most - n)) (hs.2.2.2 c hc)
    refine Wq.jmp (q4_9 ..) (fun _ => rfl) ?_
    rw [c.v_eq] at hg' hq
    rw [ltL]
    simp only [oneCell_int, oneCell_str, oneCell_bool, oneCell_row, oneCell_ep, oneCell_nilp, cond_true, cond_false, optK_some, ldV_int, ldV_str, ldV_bool, ldV_row, ldV_ep, ldV_nilp, rdBin_add, rdBin_sub, rdBin_mul, rdBin_lss, rdBin_leq, rdBin_gtr, rdBin_geq, rdBin_eql, rdBin_neq, rdBin_seql, rdBin_sneq, unV_not, bvK_bool, bK_true, bK_false, Bool.not_true, Bool.not_false, Bool.not_not, rdNil_ep, rdNil_ptr, oneCell_sl, ldV_sl, vEq_self, List.length_nil, Int.cast_ofNat_Int, Int.reduceEq, Int.reduceLT, Int.reduceLE, decide_true, decide_false, eq_self, Bool.and_self, fa_24_0, fa_24_1, fa_24_2, fa_24_3, fp_24_0, fp_24_1, fp_24_2, fp_24_3, ld_3, ld_5, ld_9, ld_22, ld_24, ld_161, len_9, len_22, lenS_22, lenN_22, len_82, lenS_82, lenN_82, t.v_eq, List.length_map, is_lt_len hi, ix_22 hg', rdLen_str _ und_9, txt_size, rdBin_quo 3 true .i64 _ 8 (by omega : (8 : Int) ≠ 0), wrap_succ (show i < 9223372036854775807 by omega)]
    refine Wq.ite (fun hle => ?_) (fun hle => ?_)
    · rw [if_pos hle]
      refine Wq.call hq hA fun H2 nx2 hA2 => ?_
      simp only [oneCell_int, oneCell_str, oneCell_bool, oneCell_row, oneCell_ep, oneCell_nilp, cond_true, cond_false, optK_some, ldV_int, ldV_str, ldV_bool, ldV_row, ldV_ep, ldV_nilp, rdBin_add, rdBin_sub, rdBin_mul, rdBin_lss, rdBin_leq, rdBin_gtr, rdBin_geq, rdBin_eql, rdBin_neq, rdBin_seql, rdBin_sneq, unV_not, bvK_bool, bK_true, bK_false, Bool.not_true, Bool.not_false, Bool.not_not, rdNil_ep, rdNil_ptr, oneCell_sl, ldV_sl, vEq_self, List.length_nil, Int.cast_ofNat_Int, Int.reduceEq, Int.reduceLT, Int.reduceLE, decide_true, decide_false, eq_self, Bool.and_self, fa_24_0, fa_24_1, fa_24_2, fa_24_3, fp_24_0, fp_24_1, fp_24_2, fp_24_3, ld_3, ld_5, ld_9, ld_22, ld_24, ld_161, len_9, len_22, lenS_22, lenN_22, len_82, lenS_82, lenN_82, Bool.and_true, rdBin_quo 3 true .i64 _ 8 (by omega : (8 : Int) ≠ 0)]
      have := ih (w (w (n + w ((c.name.length : Int).tdiv 8)) + lt c (w (most - n)))) _ _ hA2
      rw [t.v_eq] at this
      exact this
    · rw [if_neg hle]
      exact Wq.ret hA
theorem pu_16 (a : Int) : Pu 16 [i64 a, i64 26] (i64 (a % 26)) := Pure.of rfl fun H nx => by
  rw [q16]
  have h1 : a.tmod 26 = if 0 ≤ a then a % 26 else -((-a) % 26) := by
    split
    · exact Int.tmod_eq_emod_of_nonneg (by omega)
    · have := Int.neg_tmod (-a) 26
      rw [Int.neg_neg] at this
      rw [this, Int.tmod_eq_emod_of_nonneg (by omega)]
  simp only [oneCell_int, oneCell_str, oneCell_bool, oneCell_row, oneCell_ep, oneCell_nilp, cond_true, cond_false, optK_some, ldV_int, ldV_str, ldV_bool, ldV_row, ldV_ep, ldV_nilp, rdBin_add, rdBin_sub, rdBin_mul, rdBin_lss, rdBin_leq, rdBin_gtr, rdBin_geq, rdBin_eql, rdBin_neq, rdBin_seql, rdBin_sneq, unV_not, bvK_bool, bK_true, bK_false, Bool.not_true, Bool.not_false, Bool.not_not, rdNil_ep, rdNil_ptr, oneCell_sl, ldV_sl, vEq_self, List.length_nil, Int.cast_ofNat_Int, Int.reduceEq, Int.reduceLT, Int.reduceLE, decide_true, decide_false, eq_self, Bool.and_self, fa_24_0, fa_24_1, fa_24_2, fa_24_3, fp_24_0, fp_24_1, fp_24_2, fp_24_3, ld_3, ld_5, ld_9, ld_22, ld_24, ld_161, len_9, len_22, lenS_22, lenN_22, len_82, lenS_82, lenN_82, rdBin_rem 3 false .i64 a 26 (by omega)]
  refine Wq.ite (fun h => ?_) (fun h => ?_)
  · have e : IntKind.i64.wrap (a.tmod 26 + 26) = a % 26 := by rw [wrap_id (by rw [h1]; split <;> omega), h1]; rw [h1] at h; split at h <;> omega
    rw [e]
    refine Wq.jmp (q16_14 ..) (fun _ => rfl) ?_
    exact Wq.ret (.refl _ _)
  · refine Wq.jmp (q16_14 ..) (fun _ => rfl) ?_
    refine Wq.retE ?_ (.refl _ _)
    congr 1
    rw [h1] at h ⊢
    split <;> rename_i h2
    · rfl
    · rw [if_neg h2] at h; omega
theorem dgA_dec (u : Nat) : ∀ s, dgA u s = Lib.decDigits u ++ s := by
  induction u using Nat.strongRecOn with
  | ind u ih =>
    intro s
    rw [dgA, Lib.decDigits]
    by_cases h : u < 10
    · rw [if_pos h, dif_pos h]; rfl
    · rw [if_neg h, dif_neg h, ih (u / 10) (by omega), List.append_assoc]; rfl
theorem itoa_dig (n : Int) : Lib.itoa n = dig n := by
  unfold Lib.itoa dig
  rw [dgA_dec, List.append_nil]
  split
  · rfl
  · rw [show n.toNat = n.natAbs from by omega]
theorem pu_29 (n : Int) (h : rg n) : Pu 29 [i64 n] (txt (dig n)) := Pure.ext (by
  show (if -9223372036854775808 ≤ n ∧ n ≤ 9223372036854775807 then some (Value.string ⟨(Lib.itoa n).toArray⟩) else none) = _
  rw [if_pos ⟨h.1, by have := h.2; omega⟩, itoa_dig])
theorem letter_nat (n : Int) : IntKind.u8.wrap (97 + n % 26) = ((letter n).toNat : Int) := by
  unfold letter
  rw [wrap_u8]
  have : ((97 + (n % 26).toNat).toUInt8).toNat = 97 + (n % 26).toNat := by simp; omega
  rw [this]; omega
theorem pu_24 (n : Int) (h : rg n) : Pu 24 [i64 n] (txt (var n)) := Pure.of rfl fun H nx => by
  rw [q24]
  have hd := rg_div h
  have hw : w (n.tdiv 26) = n.tdiv 26 := wrap_id hd
  have dl := dig_length (n.tdiv 26) hd
  have L : Wq P pl X (.jump (l24_10 (i64 n) (i64 (n % 26)) H nx)) nx H (txt (var n)) := by
    refine Wq.jmp (q24_10 ..) (fun _ => rfl) ?_
    have e1 : IntKind.i64.wrap (97 + n % 26) = 97 + n % 26 := wrap_id (by omega)
    simp only [oneCell_int, oneCell_str, oneCell_bool, oneCell_row, oneCell_ep, oneCell_nilp, cond_true, cond_false, optK_some, ldV_int, ldV_str, ldV_bool, ldV_row, ldV_ep, ldV_nilp, rdBin_add, rdBin_sub, rdBin_mul, rdBin_lss, rdBin_leq, rdBin_gtr, rdBin_geq, rdBin_eql, rdBin_neq, rdBin_seql, rdBin_sneq, unV_not, bvK_bool, bK_true, bK_false, Bool.not_true, Bool.not_false, Bool.not_not, rdNil_ep, rdNil_ptr, oneCell_sl, ldV_sl, vEq_self, List.length_nil, Int.cast_ofNat_Int, Int.reduceEq, Int.reduceLT, Int.reduceLE, decide_true, decide_false, eq_self, Bool.and_self, fa_24_0, fa_24_1, fa_24_2, fa_24_3, fp_24_0, fp_24_1, fp_24_2, fp_24_3, ld_3, ld_5, ld_9, ld_22, ld_24, ld_161, len_9, len_22, lenS_22, lenN_22, len_82, lenS_82, lenN_82, e1, cv_3_5, letter_nat]
    refine Wq.row und_82 sz_5 zero_5 rfl (fb1 _) (.refl _ _) fun H1 hb1 _ hA1 => ?_
    rw [rdConv_sl bytes_82 hb1 (r := [letter n]) (by simp) (by simp [bys]), optK_some, rdAdd_txt 9 true [39] [letter n] (by simp), optK_some]
    simp only [oneCell_int, oneCell_str, oneCell_bool, oneCell_row, oneCell_ep, oneCell_nilp, cond_true, cond_false, optK_some, ldV_int, ldV_str, ldV_bool, ldV_row, ldV_ep, ldV_nilp, rdBin_add, rdBin_sub, rdBin_mul, rdBin_lss, rdBin_leq, rdBin_gtr, rdBin_geq, rdBin_eql, rdBin_neq, rdBin_seql, rdBin_sneq, unV_not, bvK_bool, bK_true, bK_false, Bool.not_true, Bool.not_false, Bool.not_not, rdNil_ep, rdNil_ptr, oneCell_sl, ldV_sl, vEq_self, List.length_nil, Int.cast_ofNat_Int, Int.reduceEq, Int.reduceLT, Int.reduceLE, decide_true, decide_false, eq_self, Bool.and_self, fa_24_0, fa_24_1, fa_24_2, fa_24_3, fp_24_0, fp_24_1, fp_24_2, fp_24_3, ld_3, ld_5, ld_9, ld_22, ld_24, ld_161, len_9, len_22, lenS_22, lenN_22, len_82, lenS_82, lenN_82, rdBin_quo 3 true .i64 n 26 (by omega)]
    refine Wq.ite (fun h26 => ?_) (fun h26 => ?_)
    · rw [show IntKind.i64.wrap (n.tdiv 26) = n.tdiv 26 from hw]
      refine Wq.call (pu_29 _ hd) hA1 fun H2 nx2 hA2 => ?_
      rw [rdAdd_txt 9 false _ _ (by simp; omega), optK_some]
      refine Wq.jmp (q24_16 ..) (fun _ => rfl) ?_
      exact Wq.retE (by unfold var; rw [if_pos h26]; rfl) hA2
    · refine Wq.jmp (q24_16 ..) (fun _ => rfl) ?_
      exact Wq.retE (by unfold var; rw [if_neg h26]; rfl) hA1
  have h1 : n.tmod 26 = if 0 ≤ n then n % 26 else -((-n) % 26) := by
    split
    · exact Int.tmod_eq_emod_of_nonneg (by omega)
    · have := Int.neg_tmod (-n) 26
      rw [Int.neg_neg] at this
      rw [this, Int.tmod_eq_emod_of_nonneg (by omega)]
  simp only [oneCell_int, oneCell_str, oneCell_bool, oneCell_row, oneCell_ep, oneCell_nilp, cond_true, cond_false, optK_some, ldV_int, ldV_str, ldV_bool, ldV_row, ldV_ep, ldV_nilp, rdBin_add, rdBin_sub, rdBin_mul, rdBin_lss, rdBin_leq, rdBin_gtr, rdBin_geq, rdBin_eql, rdBin_neq, rdBin_seql, rdBin_sneq, unV_not, bvK_bool, bK_true, bK_false, Bool.not_true, Bool.not_false, Bool.not_not, rdNil_ep, rdNil_ptr, oneCell_sl, ldV_sl, vEq_self, List.length_nil, Int.cast_ofNat_Int, Int.reduceEq, Int.reduceLT, Int.reduceLE, decide_true, decide_false, eq_self, Bool.and_self, fa_24_0, fa_24_1, fa_24_2, fa_24_3, fp_24_0, fp_24_1, fp_24_2, fp_24_3, ld_3, ld_5, ld_9, ld_22, ld_24, ld_161, len_9, len_22, lenS_22, lenN_22, len_82, lenS_82, lenN_82, rdBin_rem 3 true .i64 n 26 (by omega)]
  refine Wq.ite (fun hn => ?_) (fun hn => ?_)
  · have e : IntKind.i64.wrap (n.tmod 26 + 26) = n % 26 := by rw [wrap_id (by rw [h1]; split <;> omega), h1]; rw [h1] at hn; split at hn <;> omega
    rw [e]; exact L
  · have e : n.tmod 26 = n % 26 := by
      rw [h1] at hn ⊢
      split <;> rename_i h2
      · rfl
      · rw [if_neg h2] at hn; omega
    rw [e]; exact L
theorem alpha_0 (H : T OB) : rdSlice P H 9 (some (.string ⟨⟨[97, 98, 99, 100, 101, 102, 103, 104, 105, 106, 107, 108, 109, 110, 111, 112, 113, 114, 115, 116, 117, 118, 119, 120, 121, 122]⟩⟩)) (some (some (.int .i64 0))) (some (some (.int .i64 1))) (some none) = some (txt [97]) := by kernel_rfl
theorem alpha_1 (H : T OB) : rdSlice P H 9 (some (.string ⟨⟨[97, 98, 99, 100, 101, 102, 103, 104, 105, 106, 107, 108, 109, 110, 111, 112, 113, 114, 115, 116, 117, 118, 119, 120, 121, 122]⟩⟩)) (some (some (.int .i64 1))) (some (some (.int .i64 2))) (some none) = some (txt [98]) := by kernel_rfl
theorem alpha_2 (H : T OB) : rdSlice P H 9 (some (.string ⟨⟨[97, 98, 99, 100, 101, 102, 103, 104, 105, 106, 107, 108, 109, 110, 111, 112, 113, 114, 115, 116, 117, 118, 119, 120, 121, 122]⟩⟩)) (some (some (.int .i64 2))) (some (some (.int .i64 3))) (some none) = some (txt [99]) := by kernel_rfl
theorem alpha_3 (H : T OB) : rdSlice P H 9 (some (.string ⟨⟨[97, 98, 99, 100, 101, 102, 103, 104, 105, 106, 107, 108, 109, 110, 111, 112, 113, 114, 115, 116, 117, 118, 119, 120, 121, 122]⟩⟩)) (some (some (.int .i64 3))) (some (some (.int .i64 4))) (some none) = some (txt [100]) := by kernel_rfl
theorem alpha_4 (H : T OB) : rdSlice P H 9 (some (.string ⟨⟨[97, 98, 99, 100, 101, 102, 103, 104, 105, 106, 107, 108, 109, 110, 111, 112, 113, 114, 115, 116, 117, 118, 119, 120, 121, 122]⟩⟩)) (some (some (.int .i64 4))) (some (some (.int .i64 5))) (some none) = some (txt [101]) := by kernel_rfl
theorem alpha_5 (H : T OB) : rdSlice P H 9 (some (.string ⟨⟨[97, 98, 99, 100, 101, 102, 103, 104, 105, 106, 107, 108, 109, 110, 111, 112, 113, 114, 115, 116, 117, 118, 119, 120, 121, 122]⟩⟩)) (some (some (.int .i64 5))) (some (some (.int .i64 6))) (some none) = some (txt [102]) := by kernel_rfl
theorem alpha_6 (H : T OB) : rdSlice P H 9 (some (.string ⟨⟨[97, 98, 99, 100, 101, 102, 103, 104, 105, 106, 107, 108, 109, 110, 111, 112, 113, 114, 115, 116, 117, 118, 119, 120, 121, 122]⟩⟩)) (some (some (.int .i64 6))) (some (some (.int .i64 7))) (some none) = some (txt [103]) := by kernel_rfl
theorem alpha_7 (H : T OB) : rdSlice P H 9 (some (.string ⟨⟨[97, 98, 99, 100, 101, 102, 103, 104, 105, 106, 107, 108, 109, 110, 111, 112, 113, 114, 115, 116, 117, 118, 119, 120, 121, 122]⟩⟩)) (some (some (.int .i64 7))) (some (some (.int .i64 8))) (some none) = some (txt [104]) := by kernel_rfl
theorem alpha_8 (H : T OB) : rdSlice P H 9 (some (.string ⟨⟨[97, 98, 99, 100, 101, 102, 103, 104, 105, 106, 107, 108, 109, 110, 111, 112, 113, 114, 115, 116, 117, 118, 119, 120, 121, 122]⟩⟩)) (some (some (.int .i64 8))) (some (some (.int .i64 9))) (some none) = some (txt [105]) := by kernel_rfl
theorem alpha_9 (H : T OB) : rdSlice P H 9 (some (.string ⟨⟨[97, 98, 99, 100, 101, 102, 103, 104, 105, 106, 107, 108, 109, 110, 111, 112, 113, 114, 115, 116, 117, 118, 119, 120, 121, 122]⟩⟩)) (some (some (.int .i64 9))) (some (some (.int .i64 10))) (some none) = some (txt [106]) := by kernel_rfl
theorem alpha_10 (H : T OB) : rdSlice P H 9 (some (.string ⟨⟨[97, 98, 99, 100, 101, 102, 103, 104, 105, 106, 107, 108, 109, 110, 111, 112, 113, 114, 115, 116, 117, 118, 119, 120, 121, 122]⟩⟩)) (some (some (.int .i64 10))) (some (some (.int .i64 11))) (some none) = some (txt [107]) := by kernel_rfl
theorem alpha_11 (H : T OB) : rdSlice P H 9 (some (.string ⟨⟨[97, 98, 99, 100, 101, 102, 103, 104, 105, 106, 107, 108, 109, 110, 111, 112, 113, 114, 115, 116, 117, 118, 119, 120, 121, 122]⟩⟩)) (some (some (.int .i64 11))) (some (some (.int .i64 12))) (some none) = some (txt [108]) := by kernel_rfl
theorem alpha_12 (H : T OB) : rdSlice P H 9 (some (.string ⟨⟨[97, 98, 99, 100, 101, 102, 103, 104, 105, 106, 107, 108, 109, 110, 111, 112, 113, 114, 115, 116, 117, 118, 119, 120, 121, 122]⟩⟩)) (some (some (.int .i64 12))) (some (some (.int .i64 13))) (some none) = some (txt [109]) := by kernel_rfl
theorem alpha_13 (H : T OB) : rdSlice P H 9 (some (.string ⟨⟨[97, 98, 99, 100, 101, 102, 103, 104, 105, 106, 107, 108, 109, 110, 111, 112, 113, 114, 115, 116, 117, 118, 119, 120, 121, 122]⟩⟩)) (some (some (.int .i64 13))) (some (some (.int .i64 14))) (some none) = some (txt [110]) := by kernel_rfl
theorem alpha_14 (H : T OB) : rdSlice P H 9 (some (.string ⟨⟨[97, 98, 99, 100, 101, 102, 103, 104, 105, 106, 107, 108, 109, 110, 111, 112, 113, 114, 115, 116, 117, 118, 119, 120, 121, 122]⟩⟩)) (some (some (.int .i64 14))) (some (some (.int .i64 15))) (some none) = some (txt [111]) := by kernel_rfl
theorem alpha_15 (H : T OB) : rdSlice P H 9 (some (.string ⟨⟨[97, 98, 99, 100, 101, 102, 103, 104, 105, 106, 107, 108, 109, 110, 111, 112, 113, 114, 115, 116, 117, 118, 119, 120, 121, 122]⟩⟩)) (some (some (.int .i64 15))) (some (some (.int .i64 16))) (some none) = some (txt [112]) := by kernel_rfl
theorem alpha_16 (H : T OB) : rdSlice P H 9 (some (.string ⟨⟨[97, 98, 99, 100, 101, 102, 103, 104, 105, 106, 107, 108, 109, 110, 111, 112, 113, 114, 115, 116, 117, 118, 119, 120, 121, 122]⟩⟩)) (some (some (.int .i64 16))) (some (some (.int .i64 17))) (some none) = some (txt [113]) := by kernel_rfl
theorem alpha_17 (H : T OB) : rdSlice P H 9 (some (.string ⟨⟨[97, 98, 99, 100, 101, 102, 103, 104, 105, 106, 107, 108, 109, 110, 111, 112, 113, 114, 115, 116, 117, 118, 119, 120, 121, 122]⟩⟩)) (some (some (.int .i64 17))) (some (some (.int .i64 18))) (some none) = some (txt [114]) := by kernel_rfl
theorem alpha_18 (H : T OB) : rdSlice P H 9 (some (.string ⟨⟨[97, 98, 99, 100, 101, 102, 103, 104, 105, 106, 107, 108, 109, 110, 111, 112, 113, 114, 115, 116, 117, 118, 119, 120, 121, 122]⟩⟩)) (some (some (.int .i64 18))) (some (some (.int .i64 19))) (some none) = some (txt [115]) := by kernel_rfl
theorem alpha_19 (H : T OB) : rdSlice P H 9 (some (.string ⟨⟨[97, 98, 99, 100, 101, 102, 103, 104, 105, 106, 107, 108, 109, 110, 111, 112, 113, 114, 115, 116, 117, 118, 119, 120, 121, 122]⟩⟩)) (some (some (.int .i64 19))) (some (some (.int .i64 20))) (some none) = some (txt [116]) := by kernel_rfl
theorem alpha_20 (H : T OB) : rdSlice P H 9 (some (.string ⟨⟨[97, 98, 99, 100, 101, 102, 103, 104, 105, 106, 107, 108, 109, 110, 111, 112, 113, 114, 115, 116, 117, 118, 119, 120, 121, 122]⟩⟩)) (some (some (.int .i64 20))) (some (some (.int .i64 21))) (some none) = some (txt [117]) := by kernel_rfl
theorem alpha_21 (H : T OB) : rdSlice P H 9 (some (.string ⟨⟨[97, 98, 99, 100, 101, 102, 103, 104, 105, 106, 107, 108, 109, 110, 111, 112, 113, 114, 115, 116, 117, 118, 119, 120, 121, 122]⟩⟩)) (some (some (.int .i64 21))) (some (some (.int .i64 22))) (some none) = some (txt [118]) := by kernel_rfl
theorem alpha_22 (H : T OB) : rdSlice P H 9 (some (.string ⟨⟨[97, 98, 99, 100, 101, 102, 103, 104, 105, 106, 107, 108, 109, 110, 111, 112, 113, 114, 115, 116, 117, 118, 119, 120, 121, 122]⟩⟩)) (some (some (.int .i64 22))) (some (some (.int .i64 23))) (some none) = some (txt [119]) := by kernel_rfl
theorem alpha_23 (H : T OB) : rdSlice P H 9 (some (.string ⟨⟨[97, 98, 99, 100, 101, 102, 103, 104, 105, 106, 107, 108, 109, 110, 111, 112, 113, 114, 115, 116, 117, 118, 119, 120, 121, 122]⟩⟩)) (some (some (.int .i64 23))) (some (some (.int .i64 24))) (some none) = some (txt [120]) := by kernel_rfl
theorem alpha_24 (H : T OB) : rdSlice P H 9 (some (.string ⟨⟨[97, 98, 99, 100, 101, 102, 103, 104, 105, 106, 107, 108, 109, 110, 111, 112, 113, 114, 115, 116, 117, 118, 119, 120, 121, 122]⟩⟩)) (some (some (.int .i64 24))) (some (some (.int .i64 25))) (some none) = some (txt [121]) := by kernel_rfl
theorem alpha_25 (H : T OB) : rdSlice P H 9 (some (.string ⟨⟨[97, 98, 99, 100, 101, 102, 103, 104, 105, 106, 107, 108, 109, 110, 111, 112, 113, 114, 115, 116, 117, 118, 119, 120, 121, 122]⟩⟩)) (some (some (.int .i64 25))) (some (some (.int .i64 26))) (some none) = some (txt [122]) := by kernel_rfl
theorem alpha (H : T OB) : ∀ i : Nat, i < 26 → rdSlice P H 9 (some (.string ⟨⟨[97, 98, 99, 100, 101, 102, 103, 104, 105, 106, 107, 108, 109, 110, 111, 112, 113, 114, 115, 116, 117, 118, 119, 120, 121, 122]⟩⟩)) (some (some (.int .i64 (i : Int)))) (some (some (.int .i64 ((i : Int) + 1)))) (some none) = some (txt [(97 + i).toUInt8])
  | 0, _ => alpha_0 H
  | 1, _ => alpha_1 H
  | 2, _ => alpha_2 H
  | 3, _ => alpha_3 H
  | 4, _ => alpha_4 H
  | 5, _ => alpha_5 H
  | 6, _ => alpha_6 H
  | 7, _ => alpha_7 H
  | 8, _ => alpha_8 H
  | 9, _ => alpha_9 H
  | 10, _ => alpha_10 H
  | 11, _ => alpha_11 H
  | 12, _ => alpha_12 H
  | 13, _ => alpha_13 H
  | 14, _ => alpha_14 H
  | 15, _ => alpha_15 H
  | 16, _ => alpha_16 H
  | 17, _ => alpha_17 H
  | 18, _ => alpha_18 H
  | 19, _ => alpha_19 H
  | 20, _ => alpha_20 H
  | 21, _ => alpha_21 H
  | 22, _ => alpha_22 H
  | 23, _ => alpha_23 H
  | 24, _ => alpha_24 H
  | 25, _ => alpha_25 H
  | n + 26, h => absurd h (by omega)
end
end Go.Proofs.YtcfpakjillacgaaGreatDoor
