/- Functions as text: what the text is; the document's text. -/
import Derived.Test.YtfdgoenmdalphaaGreatDoorS18
namespace Go.Proofs.YtfdgoenmdalphaaGreatDoor
open Go.Ev Go.RowKit
noncomputable section
set_option maxRecDepth 100000
set_option linter.unusedVariables false
set_option linter.unusedSimpArgs false
/-! operations' names -/
def opN (k : Nat) : List UInt8 := match tbl[k]? with
  | some (.string a :: _) => a.data.toList
  | _ => []
def name (n : Int) : List UInt8 := if 1 ≤ n ∧ n < 37 then opN n.toNat else []
def names : List Value := [(.string ⟨⟨[]⟩⟩), (.string ⟨⟨[105, 110, 116]⟩⟩), (.string ⟨⟨[108, 105, 116]⟩⟩), (.string ⟨⟨[109, 111, 118, 101]⟩⟩), (.string ⟨⟨[112, 117, 116]⟩⟩), (.string ⟨⟨[108, 111, 97, 100]⟩⟩), (.string ⟨⟨[115, 97, 118, 101]⟩⟩), (.string ⟨⟨[97, 100, 100]⟩⟩), (.string ⟨⟨[115, 117, 98]⟩⟩), (.string ⟨⟨[109, 117, 108]⟩⟩), (.string ⟨⟨[100, 105, 118]⟩⟩), (.string ⟨⟨[109, 111, 100]⟩⟩), (.string ⟨⟨[110, 101, 103]⟩⟩), (.string ⟨⟨[108, 101, 115, 115]⟩⟩), (.string ⟨⟨[97, 116, 109, 111, 115, 116]⟩⟩), (.string ⟨⟨[115, 97, 109, 101]⟩⟩), (.string ⟨⟨[116, 117, 112, 108, 101]⟩⟩), (.string ⟨⟨[99, 108, 111, 115, 117, 114, 101]⟩⟩), (.string ⟨⟨[114, 101, 102]⟩⟩), (.string ⟨⟨[102, 105, 101, 108, 100]⟩⟩), (.string ⟨⟨[102, 105, 108, 108]⟩⟩), (.string ⟨⟨[97, 115, 115, 105, 103, 110]⟩⟩), (.string ⟨⟨[116, 97, 103]⟩⟩), (.string ⟨⟨[106, 117, 109, 112]⟩⟩), (.string ⟨⟨[117, 110, 108, 101, 115, 115]⟩⟩), (.string ⟨⟨[101, 110, 116, 101, 114]⟩⟩), (.string ⟨⟨[99, 97, 108, 108]⟩⟩), (.string ⟨⟨[116, 97, 105, 108]⟩⟩), (.string ⟨⟨[114, 101, 116, 117, 114, 110]⟩⟩), (.string ⟨⟨[104, 97, 110, 100, 108, 101]⟩⟩), (.string ⟨⟨[117, 110, 104, 97, 110, 100, 108, 101]⟩⟩), (.string ⟨⟨[114, 97, 105, 115, 101]⟩⟩), (.string ⟨⟨[106, 111, 105, 110]⟩⟩), (.string ⟨⟨[115, 105, 122, 101]⟩⟩), (.string ⟨⟨[115, 116, 114]⟩⟩), (.string ⟨⟨[111, 114, 100]⟩⟩), (.string ⟨⟨[100, 105, 103, 105, 116, 115]⟩⟩)]
theorem names_eq : names = (List.range 37).map fun k => txt (opN k) := by kernel_rfl
theorem names_get {k : Nat} (h : k < 37) : names[k]? = some (txt (opN k)) := by rw [names_eq]; simp [h]
theorem opN_short : (List.range 37).all (fun k => Nat.ble (opN k).length 9) = true := by kernel_rfl
theorem name_length (n : Int) : (name n).length ≤ 9 := by
  unfold name
  split
  · exact Nat.le_of_ble_eq_true (List.all_eq_true.1 opN_short n.toNat (List.mem_range.2 (by omega)))
  · simp
theorem und_203 : P.underlying 203 = some (.array 37 9) := by kernel_rfl
theorem pu_112 (n : Int) : Pu 112 [i64 n] (txt (name n)) := Pure.of rfl fun H nx => by
  rw [q112]
  refine Wq.alloc zero_203 (.refl _ _) fun H1 hb1 _ hA1 => ?_
  refine Wq.store hb1 sz_203 (by simp) rfl rfl hA1 (Nat.le_refl _) fun H2 hb2 _ hA2 => ?_
  have hb : IsB H2 nx names 203 := hb2
  have L : ∀ b : Bool, (b = true ↔ ¬ (1 ≤ n ∧ n < 37)) → Wq P pl X (.jump (l112_8 (i64 n) (.pointer (some ⟨nx, 0, none⟩)) b H2 (nx + 1))) nx H (txt (name n)) := by
    intro b hbn
    refine Wq.jmp (q112_8 ..) (fun _ => rfl) ?_
    refine Wq.bK (fun h => ?_) (fun h => ?_)
    · exact Wq.retE (by unfold name; rw [if_neg (hbn.1 h)]) hA2
    · have hr : 1 ≤ n ∧ n < 37 := Classical.byContradiction fun q => by rw [hbn.2 q] at h; cases h
      have hk : n.toNat < 37 := by omega
      have e : n = ((n.toNat : Nat) : Int) := by omega
      rw [e, rdIndex_arr und_203 sz_9 hk, optK_some, rdLoad_cell hb agg_9 (by rw [Nat.mul_one, Nat.zero_add]; exact names_get hk), optK_some]
      refine Wq.retE ?_ hA2
      unfold name
      rw [if_pos (by omega)]; rfl
  simp only [oneCell_int, oneCell_str, oneCell_bool, oneCell_row, oneCell_ep, oneCell_nilp, cond_true, cond_false, optK_some, ldV_int, ldV_str, ldV_bool, ldV_row, ldV_ep, ldV_nilp, rdBin_add, rdBin_sub, rdBin_mul, rdBin_lss, rdBin_leq, rdBin_gtr, rdBin_geq, rdBin_eql, rdBin_neq, rdBin_seql, rdBin_sneq, unV_not, bvK_bool, bK_true, bK_false, Bool.not_true, Bool.not_false, Bool.not_not, rdNil_ep, rdNil_ptr, oneCell_sl, ldV_sl, vEq_self, List.length_nil, Int.cast_ofNat_Int, Int.reduceEq, Int.reduceLT, Int.reduceLE, decide_true, decide_false, eq_self, Bool.and_self, fa_25_0, fa_25_1, fa_25_2, fa_25_3, fa_25_4, fa_25_5, fa_67_0, fa_67_1, fa_67_2, fa_67_3, fa_69_0, fa_69_1, fa_69_2, fa_71_0, fa_71_1, fa_71_2, fa_71_3, fa_95_0, fa_95_1, fa_95_2, fa_102_0, fa_125_0, fa_125_1, fa_125_2, fa_125_3, fa_125_4, fa_145_0, fa_145_1, fa_177_0, fa_177_1, fp_25_0, fp_25_1, fp_25_2, fp_25_3, fp_25_4, fp_25_5, fp_67_0, fp_67_1, fp_67_2, fp_67_3, fp_69_0, fp_69_1, fp_69_2, fp_71_0, fp_71_1, fp_71_2, fp_71_3, fp_102_0, fp_125_0, fp_125_1, fp_125_2, fp_125_3, fp_125_4, fp_177_0, fp_177_1, fp_177_2, fp_177_3, ld_2, ld_3, ld_9, ld_22, ld_23, ld_25, ld_30, ld_63, ld_64, ld_65, ld_67, ld_69, ld_71, ld_100, ld_125, ld_141, ld_177, len_9, len_22, lenS_22, lenN_22, len_23, lenS_23, lenN_23, len_30, lenS_30, lenN_30, len_63, lenS_63, lenN_63, len_64, lenS_64, lenN_64, len_65, lenS_65, lenN_65, len_148, lenS_148, lenN_148, len_205, lenS_205, lenN_205, beql_4, pneq_141, pneq0_141]
  refine Wq.ite (fun h => L true (by simp; omega)) (fun h => L _ (by rw [decide_eq_true_eq]; omega))
def chkN (k : Nat) : Bool := match tbl[k]? with
  | some [.string a, .string b, .string c, .string d] => true
  | _ => false
theorem chkN_all : (List.range 37).all chkN = true := by kernel_rfl
theorem tbl_name (k : Nat) (hk : k < 37) : ∃ b c d : ByteArray, tbl[k]? = some [txt (opN k), .string b, .string c, .string d] := by
  have h := List.all_eq_true.1 chkN_all k (List.mem_range.2 hk)
  unfold chkN at h
  split at h
  · rename_i a b c d e
    refine ⟨b, c, d, ?_⟩
    rw [e]
    unfold opN
    rw [e]
  · cases h
theorem pu_114n (n : Int) : ∃ b c d : ByteArray, ∃ e : Bool, Pu 114 [i64 n] (.tuple ⟨[.agg ⟨[txt (name n), .string b, .string c, .string d]⟩, .bool e]⟩) := by
  by_cases hr : 1 ≤ n ∧ n < 37
  · obtain ⟨b, c, d, hr'⟩ := tbl_name n.toNat (by omega)
    refine ⟨b, c, d, true, Pure.of rfl fun H nx => ?_⟩
    rw [q114]
    refine Wq.alloc zero_177 (.refl _ _) fun H1 hb1 _ hA1 => ?_
    refine Wq.callB pu_140 hA1 fun H2 nx2 hA2 _ keep => ?_
    have hl : ((tbl.map fun x => Value.agg ⟨x⟩).length : Int) = 37 := by decide
    have c1 : decide (n < 1) = false := by simp; omega
    have c2 : decide ((37 : Int) ≤ n) = false := by simp; omega
    simp only [oneCell_int, oneCell_str, oneCell_bool, oneCell_row, oneCell_ep, oneCell_nilp, cond_true, cond_false, optK_some, ldV_int, ldV_str, ldV_bool, ldV_row, ldV_ep, ldV_nilp, rdBin_add, rdBin_sub, rdBin_mul, rdBin_lss, rdBin_leq, rdBin_gtr, rdBin_geq, rdBin_eql, rdBin_neq, rdBin_seql, rdBin_sneq, unV_not, bvK_bool, bK_true, bK_false, Bool.not_true, Bool.not_false, Bool.not_not, rdNil_ep, rdNil_ptr, oneCell_sl, ldV_sl, vEq_self, List.length_nil, Int.cast_ofNat_Int, Int.reduceEq, Int.reduceLT, Int.reduceLE, decide_true, decide_false, eq_self, Bool.and_self, fa_25_0, fa_25_1, fa_25_2, fa_25_3, fa_25_4, fa_25_5, fa_67_0, fa_67_1, fa_67_2, fa_67_3, fa_69_0, fa_69_1, fa_69_2, fa_71_0, fa_71_1, fa_71_2, fa_71_3, fa_95_0, fa_95_1, fa_95_2, fa_102_0, fa_125_0, fa_125_1, fa_125_2, fa_125_3, fa_125_4, fa_145_0, fa_145_1, fa_177_0, fa_177_1, fp_25_0, fp_25_1, fp_25_2, fp_25_3, fp_25_4, fp_25_5, fp_67_0, fp_67_1, fp_67_2, fp_67_3, fp_69_0, fp_69_1, fp_69_2, fp_71_0, fp_71_1, fp_71_2, fp_71_3, fp_102_0, fp_125_0, fp_125_1, fp_125_2, fp_125_3, fp_125_4, fp_177_0, fp_177_1, fp_177_2, fp_177_3, ld_2, ld_3, ld_9, ld_22, ld_23, ld_25, ld_30, ld_63, ld_64, ld_65, ld_67, ld_69, ld_71, ld_100, ld_125, ld_141, ld_177, len_9, len_22, lenS_22, lenN_22, len_23, lenS_23, lenN_23, len_30, lenS_30, lenN_30, len_63, lenS_63, lenN_63, len_64, lenS_64, lenN_64, len_65, lenS_65, lenN_65, len_148, lenS_148, lenN_148, len_205, lenS_205, lenN_205, beql_4, pneq_141, pneq0_141, c1, hl, c2]
    refine Wq.jmp (q114_8 ..) (fun _ => rfl) ?_
    have hg : (tbl.map fun x => Value.agg ⟨x⟩)[n.toNat]? = some (.agg ⟨[txt (opN n.toNat), .string b, .string c, .string d]⟩) := by simp [hr']
    have hix := ix_205 hg .i64
    rw [show ((n.toNat : Nat) : Int) = n from by omega] at hix
    simp only [oneCell_int, oneCell_str, oneCell_bool, oneCell_row, oneCell_ep, oneCell_nilp, cond_true, cond_false, optK_some, ldV_int, ldV_str, ldV_bool, ldV_row, ldV_ep, ldV_nilp, rdBin_add, rdBin_sub, rdBin_mul, rdBin_lss, rdBin_leq, rdBin_gtr, rdBin_geq, rdBin_eql, rdBin_neq, rdBin_seql, rdBin_sneq, unV_not, bvK_bool, bK_true, bK_false, Bool.not_true, Bool.not_false, Bool.not_not, rdNil_ep, rdNil_ptr, oneCell_sl, ldV_sl, vEq_self, List.length_nil, Int.cast_ofNat_Int, Int.reduceEq, Int.reduceLT, Int.reduceLE, decide_true, decide_false, eq_self, Bool.and_self, fa_25_0, fa_25_1, fa_25_2, fa_25_3, fa_25_4, fa_25_5, fa_67_0, fa_67_1, fa_67_2, fa_67_3, fa_69_0, fa_69_1, fa_69_2, fa_71_0, fa_71_1, fa_71_2, fa_71_3, fa_95_0, fa_95_1, fa_95_2, fa_102_0, fa_125_0, fa_125_1, fa_125_2, fa_125_3, fa_125_4, fa_145_0, fa_145_1, fa_177_0, fa_177_1, fp_25_0, fp_25_1, fp_25_2, fp_25_3, fp_25_4, fp_25_5, fp_67_0, fp_67_1, fp_67_2, fp_67_3, fp_69_0, fp_69_1, fp_69_2, fp_71_0, fp_71_1, fp_71_2, fp_71_3, fp_102_0, fp_125_0, fp_125_1, fp_125_2, fp_125_3, fp_125_4, fp_177_0, fp_177_1, fp_177_2, fp_177_3, ld_2, ld_3, ld_9, ld_22, ld_23, ld_25, ld_30, ld_63, ld_64, ld_65, ld_67, ld_69, ld_71, ld_100, ld_125, ld_141, ld_177, len_9, len_22, lenS_22, lenN_22, len_23, lenS_23, lenN_23, len_30, lenS_30, lenN_30, len_63, lenS_63, lenN_63, len_64, lenS_64, lenN_64, len_65, lenS_65, lenN_65, len_148, lenS_148, lenN_148, len_205, lenS_205, lenN_205, beql_4, pneq_141, pneq0_141, hix]
    refine Wq.store (keep _ _ _ (by omega) hb1) sz_177 (by simp) rfl rfl hA2 (by omega) fun H3 hb3 _ hA3 => ?_
    have hb3' : IsB H3 nx [txt (opN n.toNat), .string b, .string c, .string d] 177 := hb3
    rw [rdLoad_agg hb3' agg_177 sz_177 (by simp)]
    simp only [oneCell_int, oneCell_str, oneCell_bool, oneCell_row, oneCell_ep, oneCell_nilp, cond_true, cond_false, optK_some, ldV_int, ldV_str, ldV_bool, ldV_row, ldV_ep, ldV_nilp, rdBin_add, rdBin_sub, rdBin_mul, rdBin_lss, rdBin_leq, rdBin_gtr, rdBin_geq, rdBin_eql, rdBin_neq, rdBin_seql, rdBin_sneq, unV_not, bvK_bool, bK_true, bK_false, Bool.not_true, Bool.not_false, Bool.not_not, rdNil_ep, rdNil_ptr, oneCell_sl, ldV_sl, vEq_self, List.length_nil, Int.cast_ofNat_Int, Int.reduceEq, Int.reduceLT, Int.reduceLE, decide_true, decide_false, eq_self, Bool.and_self, fa_25_0, fa_25_1, fa_25_2, fa_25_3, fa_25_4, fa_25_5, fa_67_0, fa_67_1, fa_67_2, fa_67_3, fa_69_0, fa_69_1, fa_69_2, fa_71_0, fa_71_1, fa_71_2, fa_71_3, fa_95_0, fa_95_1, fa_95_2, fa_102_0, fa_125_0, fa_125_1, fa_125_2, fa_125_3, fa_125_4, fa_145_0, fa_145_1, fa_177_0, fa_177_1, fp_25_0, fp_25_1, fp_25_2, fp_25_3, fp_25_4, fp_25_5, fp_67_0, fp_67_1, fp_67_2, fp_67_3, fp_69_0, fp_69_1, fp_69_2, fp_71_0, fp_71_1, fp_71_2, fp_71_3, fp_102_0, fp_125_0, fp_125_1, fp_125_2, fp_125_3, fp_125_4, fp_177_0, fp_177_1, fp_177_2, fp_177_3, ld_2, ld_3, ld_9, ld_22, ld_23, ld_25, ld_30, ld_63, ld_64, ld_65, ld_67, ld_69, ld_71, ld_100, ld_125, ld_141, ld_177, len_9, len_22, lenS_22, lenN_22, len_23, lenS_23, lenN_23, len_30, lenS_30, lenN_30, len_63, lenS_63, lenN_63, len_64, lenS_64, lenN_64, len_65, lenS_65, lenN_65, len_148, lenS_148, lenN_148, len_205, lenS_205, lenN_205, beql_4, pneq_141, pneq0_141]
    refine Wq.retE ?_ hA3
    unfold name
    rw [if_pos hr]; rfl
  · refine ⟨⟨⟨[]⟩⟩, ⟨⟨[]⟩⟩, ⟨⟨[]⟩⟩, false, Pure.of rfl fun H nx => ?_⟩
    rw [q114]
    refine Wq.alloc zero_177 (.refl _ _) fun H1 hb1 _ hA1 => ?_
    refine Wq.callB pu_140 hA1 fun H2 nx2 hA2 _ keep => ?_
    have hl : ((tbl.map fun x => Value.agg ⟨x⟩).length : Int) = 37 := by decide
    have L : Wq P pl X (.jump (l114_8 (i64 n) (.pointer (some ⟨nx, 0, none⟩)) (rowV 4 (tbl.map fun x => .agg ⟨x⟩)) true H2 nx2)) nx H (.tuple ⟨[.agg ⟨[txt (name n), .string ⟨⟨[]⟩⟩, .string ⟨⟨[]⟩⟩, .string ⟨⟨[]⟩⟩]⟩, .bool false]⟩) := by
      refine Wq.jmp (q114_8 ..) (fun _ => rfl) ?_
      simp only [oneCell_int, oneCell_str, oneCell_bool, oneCell_row, oneCell_ep, oneCell_nilp, cond_true, cond_false, optK_some, ldV_int, ldV_str, ldV_bool, ldV_row, ldV_ep, ldV_nilp, rdBin_add, rdBin_sub, rdBin_mul, rdBin_lss, rdBin_leq, rdBin_gtr, rdBin_geq, rdBin_eql, rdBin_neq, rdBin_seql, rdBin_sneq, unV_not, bvK_bool, bK_true, bK_false, Bool.not_true, Bool.not_false, Bool.not_not, rdNil_ep, rdNil_ptr, oneCell_sl, ldV_sl, vEq_self, List.length_nil, Int.cast_ofNat_Int, Int.reduceEq, Int.reduceLT, Int.reduceLE, decide_true, decide_false, eq_self, Bool.and_self, fa_25_0, fa_25_1, fa_25_2, fa_25_3, fa_25_4, fa_25_5, fa_67_0, fa_67_1, fa_67_2, fa_67_3, fa_69_0, fa_69_1, fa_69_2, fa_71_0, fa_71_1, fa_71_2, fa_71_3, fa_95_0, fa_95_1, fa_95_2, fa_102_0, fa_125_0, fa_125_1, fa_125_2, fa_125_3, fa_125_4, fa_145_0, fa_145_1, fa_177_0, fa_177_1, fp_25_0, fp_25_1, fp_25_2, fp_25_3, fp_25_4, fp_25_5, fp_67_0, fp_67_1, fp_67_2, fp_67_3, fp_69_0, fp_69_1, fp_69_2, fp_71_0, fp_71_1, fp_71_2, fp_71_3, fp_102_0, fp_125_0, fp_125_1, fp_125_2, fp_125_3, fp_125_4, fp_177_0, fp_177_1, fp_177_2, fp_177_3, ld_2, ld_3, ld_9, ld_22, ld_23, ld_25, ld_30, ld_63, ld_64, ld_65, ld_67, ld_69, ld_71, ld_100, ld_125, ld_141, ld_177, len_9, len_22, lenS_22, lenN_22, len_23, lenS_23, lenN_23, len_30, lenS_30, lenN_30, len_63, lenS_63, lenN_63, len_64, lenS_64, lenN_64, len_65, lenS_65, lenN_65, len_148, lenS_148, lenN_148, len_205, lenS_205, lenN_205, beql_4, pneq_141, pneq0_141]
      refine Wq.store (keep _ _ _ (by omega) hb1) sz_177 (by simp) rfl rfl hA2 (by omega) fun H3 hb3 _ hA3 => ?_
      have hb3' : IsB H3 nx [txt [], .string ⟨⟨[]⟩⟩, .string ⟨⟨[]⟩⟩, .string ⟨⟨[]⟩⟩] 177 := hb3
      rw [rdLoad_agg hb3' agg_177 sz_177 (by simp)]
      simp only [oneCell_int, oneCell_str, oneCell_bool, oneCell_row, oneCell_ep, oneCell_nilp, cond_true, cond_false, optK_some, ldV_int, ldV_str, ldV_bool, ldV_row, ldV_ep, ldV_nilp, rdBin_add, rdBin_sub, rdBin_mul, rdBin_lss, rdBin_leq, rdBin_gtr, rdBin_geq, rdBin_eql, rdBin_neq, rdBin_seql, rdBin_sneq, unV_not, bvK_bool, bK_true, bK_false, Bool.not_true, Bool.not_false, Bool.not_not, rdNil_ep, rdNil_ptr, oneCell_sl, ldV_sl, vEq_self, List.length_nil, Int.cast_ofNat_Int, Int.reduceEq, Int.reduceLT, Int.reduceLE, decide_true, decide_false, eq_self, Bool.and_self, fa_25_0, fa_25_1, fa_25_2, fa_25_3, fa_25_4, fa_25_5, fa_67_0, fa_67_1, fa_67_2, fa_67_3, fa_69_0, fa_69_1, fa_69_2, fa_71_0, fa_71_1, fa_71_2, fa_71_3, fa_95_0, fa_95_1, fa_95_2, fa_102_0, fa_125_0, fa_125_1, fa_125_2, fa_125_3, fa_125_4, fa_145_0, fa_145_1, fa_177_0, fa_177_1, fp_25_0, fp_25_1, fp_25_2, fp_25_3, fp_25_4, fp_25_5, fp_67_0, fp_67_1, fp_67_2, fp_67_3, fp_69_0, fp_69_1, fp_69_2, fp_71_0, fp_71_1, fp_71_2, fp_71_3, fp_102_0, fp_125_0, fp_125_1, fp_125_2, fp_125_3, fp_125_4, fp_177_0, fp_177_1, fp_177_2, fp_177_3, ld_2, ld_3, ld_9, ld_22, ld_23, ld_25, ld_30, ld_63, ld_64, ld_65, ld_67, ld_69, ld_71, ld_100, ld_125, ld_141, ld_177, len_9, len_22, lenS_22, lenN_22, len_23, lenS_23, lenN_23, len_30, lenS_30, lenN_30, len_63, lenS_63, lenN_63, len_64, lenS_64, lenN_64, len_65, lenS_65, lenN_65, len_148, lenS_148, lenN_148, len_205, lenS_205, lenN_205, beql_4, pneq_141, pneq0_141]
      refine Wq.retE ?_ hA3
      unfold name
      rw [if_neg hr]; rfl
    by_cases h1 : n < 1
    · simp only [oneCell_int, oneCell_str, oneCell_bool, oneCell_row, oneCell_ep, oneCell_nilp, cond_true, cond_false, optK_some, ldV_int, ldV_str, ldV_bool, ldV_row, ldV_ep, ldV_nilp, rdBin_add, rdBin_sub, rdBin_mul, rdBin_lss, rdBin_leq, rdBin_gtr, rdBin_geq, rdBin_eql, rdBin_neq, rdBin_seql, rdBin_sneq, unV_not, bvK_bool, bK_true, bK_false, Bool.not_true, Bool.not_false, Bool.not_not, rdNil_ep, rdNil_ptr, oneCell_sl, ldV_sl, vEq_self, List.length_nil, Int.cast_ofNat_Int, Int.reduceEq, Int.reduceLT, Int.reduceLE, decide_true, decide_false, eq_self, Bool.and_self, fa_25_0, fa_25_1, fa_25_2, fa_25_3, fa_25_4, fa_25_5, fa_67_0, fa_67_1, fa_67_2, fa_67_3, fa_69_0, fa_69_1, fa_69_2, fa_71_0, fa_71_1, fa_71_2, fa_71_3, fa_95_0, fa_95_1, fa_95_2, fa_102_0, fa_125_0, fa_125_1, fa_125_2, fa_125_3, fa_125_4, fa_145_0, fa_145_1, fa_177_0, fa_177_1, fp_25_0, fp_25_1, fp_25_2, fp_25_3, fp_25_4, fp_25_5, fp_67_0, fp_67_1, fp_67_2, fp_67_3, fp_69_0, fp_69_1, fp_69_2, fp_71_0, fp_71_1, fp_71_2, fp_71_3, fp_102_0, fp_125_0, fp_125_1, fp_125_2, fp_125_3, fp_125_4, fp_177_0, fp_177_1, fp_177_2, fp_177_3, ld_2, ld_3, ld_9, ld_22, ld_23, ld_25, ld_30, ld_63, ld_64, ld_65, ld_67, ld_69, ld_71, ld_100, ld_125, ld_141, ld_177, len_9, len_22, lenS_22, lenN_22, len_23, lenS_23, lenN_23, len_30, lenS_30, lenN_30, len_63, lenS_63, lenN_63, len_64, lenS_64, lenN_64, len_65, lenS_65, lenN_65, len_148, lenS_148, lenN_148, len_205, lenS_205, lenN_205, beql_4, pneq_141, pneq0_141, show decide (n < 1) = true from by simp [h1]]
      exact L
    · simp only [oneCell_int, oneCell_str, oneCell_bool, oneCell_row, oneCell_ep, oneCell_nilp, cond_true, cond_false, optK_some, ldV_int, ldV_str, ldV_bool, ldV_row, ldV_ep, ldV_nilp, rdBin_add, rdBin_sub, rdBin_mul, rdBin_lss, rdBin_leq, rdBin_gtr, rdBin_geq, rdBin_eql, rdBin_neq, rdBin_seql, rdBin_sneq, unV_not, bvK_bool, bK_true, bK_false, Bool.not_true, Bool.not_false, Bool.not_not, rdNil_ep, rdNil_ptr, oneCell_sl, ldV_sl, vEq_self, List.length_nil, Int.cast_ofNat_Int, Int.reduceEq, Int.reduceLT, Int.reduceLE, decide_true, decide_false, eq_self, Bool.and_self, fa_25_0, fa_25_1, fa_25_2, fa_25_3, fa_25_4, fa_25_5, fa_67_0, fa_67_1, fa_67_2, fa_67_3, fa_69_0, fa_69_1, fa_69_2, fa_71_0, fa_71_1, fa_71_2, fa_71_3, fa_95_0, fa_95_1, fa_95_2, fa_102_0, fa_125_0, fa_125_1, fa_125_2, fa_125_3, fa_125_4, fa_145_0, fa_145_1, fa_177_0, fa_177_1, fp_25_0, fp_25_1, fp_25_2, fp_25_3, fp_25_4, fp_25_5, fp_67_0, fp_67_1, fp_67_2, fp_67_3, fp_69_0, fp_69_1, fp_69_2, fp_71_0, fp_71_1, fp_71_2, fp_71_3, fp_102_0, fp_125_0, fp_125_1, fp_125_2, fp_125_3, fp_125_4, fp_177_0, fp_177_1, fp_177_2, fp_177_3, ld_2, ld_3, ld_9, ld_22, ld_23, ld_25, ld_30, ld_63, ld_64, ld_65, ld_67, ld_69, ld_71, ld_100, ld_125, ld_141, ld_177, len_9, len_22, lenS_22, lenN_22, len_23, lenS_23, lenN_23, len_30, lenS_30, lenN_30, len_63, lenS_63, lenN_63, len_64, lenS_64, lenN_64, len_65, lenS_65, lenN_65, len_148, lenS_148, lenN_148, len_205, lenS_205, lenN_205, beql_4, pneq_141, pneq0_141, show decide (n < 1) = false from by simp [h1], hl, show decide ((37 : Int) ≤ n) = true from by simp; omega]
      exact L
/-! texts -/
def atx (a : Atom) : List UInt8 := if a.k = 2 then quote a.t.data.toList else if a.k = 3 then 37 :: dig a.n else if a.k = 4 then [97, 114, 103] else if a.k = 5 then 94 :: dig a.n else if a.k = 6 then 36 :: dig a.n else dig a.m
def tAs : List Atom → List UInt8
  | [] => []
  | a :: l => 32 :: (atx a ++ tAs l)
def sT (k to n : Int) : List UInt8 :=
  if k = 1 then [40, 109, 111, 118, 101] ++ ([32, 37] ++ dig to)
  else if k = 2 then [40, 112, 114, 105, 109, 32] ++ (name n ++ ([32, 37] ++ dig to))
  else if k = 3 then [40, 109, 97, 107, 101] ++ ([32, 37] ++ dig to)
  else if k = 4 then [40, 99, 108, 111, 115, 101] ++ ([32, 37] ++ dig to ++ ([32] ++ dig n))
  else if k = 5 then [40, 102, 105, 108, 108] ++ ([32] ++ dig n)
  else if k = 6 then [40, 102, 105, 101, 108, 100] ++ ([32, 37] ++ dig to ++ ([32] ++ dig n))
  else if k = 7 then [40, 99, 97, 108, 108] ++ ([32, 37] ++ dig to)
  else if k = 8 then [40, 112, 117, 116, 32, 36] ++ dig n
  else if k = 9 then [40, 105, 102] ++ ([32, 37] ++ dig to)
  else [40, 116, 114, 121] ++ ([32, 37] ++ dig to ++ ([32, 37] ++ dig n))
def eT (e : Int) : List UInt8 := if e = 1 then [40, 114, 101, 116, 117, 114, 110] else if e = 2 then [40, 116, 97, 105, 108] else if e = 3 then [40, 114, 97, 105, 115, 101] else [40, 98, 114, 97, 110, 99, 104]
mutual
def tB : Block → List UInt8
  | .mk ss e ar bs => [91, 32] ++ (tSs ss ++ (eT e ++ (tAs ar ++ (tBs bs ++ [41]) ++ [32, 93])))
def tSs : List Step → List UInt8
  | [] => []
  | s :: l => tS s ++ (32 :: tSs l)
def tS : Step → List UInt8
  | .mk k to n ar bs => sT k to n ++ (tAs ar ++ (tBs bs ++ [41]))
def tBs : List Block → List UInt8
  | [] => []
  | b :: l => 32 :: (tB b ++ tBs l)
end
def tR (ar : List Atom) (bs : List Block) : List UInt8 := tAs ar ++ (tBs bs ++ [41])
theorem tB_eq (b : Block) : tB b = [91, 32] ++ (tSs b.steps ++ (eT b.e ++ (tR b.args b.blocks ++ [32, 93]))) := by cases b; rw [tB]; rfl
theorem tS_eq (s : Step) : tS s = sT s.k s.to s.n ++ tR s.args s.blocks := by cases s; rw [tS]; rfl
def tF (f : Fun) : List UInt8 := [40, 102, 117, 110, 32] ++ (dig f.free ++ ([32] ++ (dig f.locs ++ ([32] ++ (tB f.body ++ [41, 10])))))
def tFs : List Fun → List UInt8
  | [] => []
  | f :: l => tF f ++ tFs l
/-! what is in range -/
abbrev rg (n : Int) : Prop := -9223372036854775808 ≤ n ∧ n < 9223372036854775808
def aR (a : Atom) : Prop := rg a.n ∧ rg a.m
mutual
def bR : Block → Prop
  | .mk ss e ar bs => (∀ a, a ∈ ar → aR a) ∧ sR ss ∧ lR bs
def sR : List Step → Prop
  | [] => True
  | s :: l => stR s ∧ sR l
def stR : Step → Prop
  | .mk _ to n ar bs => rg to ∧ rg n ∧ (∀ a, a ∈ ar → aR a) ∧ lR bs
def lR : List Block → Prop
  | [] => True
  | b :: l => bR b ∧ lR l
end
theorem sR_iff (l : List Step) : sR l ↔ ∀ s, s ∈ l → stR s := by
  induction l with
  | nil => simp [sR]
  | cons s l ih => simp [sR, ih]
theorem lR_iff (l : List Block) : lR l ↔ ∀ s, s ∈ l → bR s := by
  induction l with
  | nil => simp [lR]
  | cons s l ih => simp [lR, ih]
theorem bR_iff (b : Block) : bR b ↔ (∀ a, a ∈ b.args → aR a) ∧ (∀ s, s ∈ b.steps → stR s) ∧ (∀ c, c ∈ b.blocks → bR c) := by
  cases b; rw [bR, sR_iff, lR_iff]; rfl
theorem stR_iff (s : Step) : stR s ↔ rg s.to ∧ rg s.n ∧ (∀ a, a ∈ s.args → aR a) ∧ (∀ c, c ∈ s.blocks → bR c) := by
  cases s; rw [stR, lR_iff]; rfl
theorem qs_ge (l : List UInt8) : l.length ≤ (qs l).length := by
  induction l with
  | nil => simp
  | cons a l ih =>
    have : 1 ≤ (qc a).length := by unfold qc; split <;> (try split) <;> (try split) <;> (try split) <;> simp
    simp only [qs, List.flatMap_cons, List.length_append, List.length_cons] at ih ⊢; omega
/-! the document's -/
theorem pu_51 (n : Int) (h : rg n) : Pu 51 [i64 n] (txt (dig n)) := Pure.of rfl fun H nx => by
  rw [q51]
  refine Wq.call (pu_86 n h) (.refl _ _) fun H1 nx1 hA1 => ?_
  exact Wq.ret hA1
theorem txt_data (t : ByteArray) : Value.string t = txt t.data.toList := by cases t; rfl
theorem pu_115 (a : Atom) (hR : aR a) (hl : (atx a).length ≤ 1000000) : Pu 115 [a.v] (txt (atx a)) := Pure.of rfl fun H nx => by
  rw [q115]
  refine Wq.natF' (.refl _ _) fun hA => ?_
  have dn := dig_length a.n hR.1
  simp only [oneCell_int, oneCell_str, oneCell_bool, oneCell_row, oneCell_ep, oneCell_nilp, cond_true, cond_false, optK_some, ldV_int, ldV_str, ldV_bool, ldV_row, ldV_ep, ldV_nilp, rdBin_add, rdBin_sub, rdBin_mul, rdBin_lss, rdBin_leq, rdBin_gtr, rdBin_geq, rdBin_eql, rdBin_neq, rdBin_seql, rdBin_sneq, unV_not, bvK_bool, bK_true, bK_false, Bool.not_true, Bool.not_false, Bool.not_not, rdNil_ep, rdNil_ptr, oneCell_sl, ldV_sl, vEq_self, List.length_nil, Int.cast_ofNat_Int, Int.reduceEq, Int.reduceLT, Int.reduceLE, decide_true, decide_false, eq_self, Bool.and_self, fa_25_0, fa_25_1, fa_25_2, fa_25_3, fa_25_4, fa_25_5, fa_67_0, fa_67_1, fa_67_2, fa_67_3, fa_69_0, fa_69_1, fa_69_2, fa_71_0, fa_71_1, fa_71_2, fa_71_3, fa_95_0, fa_95_1, fa_95_2, fa_102_0, fa_125_0, fa_125_1, fa_125_2, fa_125_3, fa_125_4, fa_145_0, fa_145_1, fa_177_0, fa_177_1, fp_25_0, fp_25_1, fp_25_2, fp_25_3, fp_25_4, fp_25_5, fp_67_0, fp_67_1, fp_67_2, fp_67_3, fp_69_0, fp_69_1, fp_69_2, fp_71_0, fp_71_1, fp_71_2, fp_71_3, fp_102_0, fp_125_0, fp_125_1, fp_125_2, fp_125_3, fp_125_4, fp_177_0, fp_177_1, fp_177_2, fp_177_3, ld_2, ld_3, ld_9, ld_22, ld_23, ld_25, ld_30, ld_63, ld_64, ld_65, ld_67, ld_69, ld_71, ld_100, ld_125, ld_141, ld_177, len_9, len_22, lenS_22, lenN_22, len_23, lenS_23, lenN_23, len_30, lenS_30, lenN_30, len_63, lenS_63, lenN_63, len_64, lenS_64, lenN_64, len_65, lenS_65, lenN_65, len_148, lenS_148, lenN_148, len_205, lenS_205, lenN_205, beql_4, pneq_141, pneq0_141, Atom.v]
  generalize hx : atx a = x
  unfold atx at hx
  refine Wq.ite (fun h2 => ?_) (fun h2 => ?_)
  · rw [if_pos h2] at hx
    have hq : (qs a.t.data.toList).length ≤ 1000000 := by
      have := hl
      unfold atx at this; rw [if_pos h2] at this
      unfold quote at this; simp at this ⊢; omega
    have hg := qs_ge a.t.data.toList
    rw [txt_data a.t]
    refine Wq.call (pu_109 _ hq (by omega)) hA fun H1 nx1 hA1 => ?_
    exact Wq.retE (by rw [← hx]) hA1
  rw [if_neg h2] at hx
  refine Wq.ite (fun h3 => ?_) (fun h3 => ?_)
  · rw [if_pos h3] at hx
    refine Wq.call (pu_51 a.n hR.1) hA fun H1 nx1 hA1 => ?_
    rw [rdAdd_txt 9 true [37] (dig a.n) (by simp; omega), optK_some]
    exact Wq.retE (by rw [← hx]; rfl) hA1
  rw [if_neg h3] at hx
  refine Wq.ite (fun h4 => ?_) (fun h4 => ?_)
  · rw [if_pos h4] at hx
    exact Wq.retE (by rw [← hx]) hA
  rw [if_neg h4] at hx
  refine Wq.ite (fun h5 => ?_) (fun h5 => ?_)
  · rw [if_pos h5] at hx
    refine Wq.call (pu_51 a.n hR.1) hA fun H1 nx1 hA1 => ?_
    rw [rdAdd_txt 9 true [94] (dig a.n) (by simp; omega), optK_some]
    exact Wq.retE (by rw [← hx]; rfl) hA1
  rw [if_neg h5] at hx
  refine Wq.ite (fun h6 => ?_) (fun h6 => ?_)
  · rw [if_pos h6] at hx
    refine Wq.call (pu_51 a.n hR.1) hA fun H1 nx1 hA1 => ?_
    rw [rdAdd_txt 9 true [36] (dig a.n) (by simp; omega), optK_some]
    exact Wq.retE (by rw [← hx]; rfl) hA1
  rw [if_neg h6] at hx
  refine Wq.call (pu_86 a.m hR.2) hA fun H1 nx1 hA1 => ?_
  exact Wq.retE (by rw [← hx]) hA1
end
end Go.Proofs.YtfdgoenmdalphaaGreatDoor
