/- The document's text of functions. -/
import Derived.Test.YtfdgoenmdalphaaGreatDoorS20
namespace Go.Proofs.YtfdgoenmdalphaaGreatDoor
open Go.Ev Go.RowKit
noncomputable section
set_option maxRecDepth 100000
set_option linter.unusedVariables false
set_option linter.unusedSimpArgs false
theorem sT_length (k to n : Int) (h1 : rg to) (h2 : rg n) : (sT k to n).length ≤ 60 := by
  have := dig_length to h1
  have := dig_length n h2
  have := name_length n
  unfold sT
  repeat' split
  all_goals simp; omega
theorem var_177 (a b c d : ByteArray) : (Value.agg ⟨[.string a, .string b, .string c, .string d]⟩).cells.toList = [.string a, .string b, .string c, .string d] := rfl
theorem pu_87 (s : Step) (hR : rg s.to ∧ rg s.n) : Pu 87 [s.v] (txt (sT s.k s.to s.n)) := Pure.of rfl fun H nx => by
  rw [q87]
  have dt := dig_length s.to hR.1
  have dn := dig_length s.n hR.2
  have dm := name_length s.n
  refine Wq.natF' (.refl _ _) fun hA => ?_
  simp only [oneCell_int, oneCell_str, oneCell_bool, oneCell_row, oneCell_ep, oneCell_nilp, cond_true, cond_false, optK_some, ldV_int, ldV_str, ldV_bool, ldV_row, ldV_ep, ldV_nilp, rdBin_add, rdBin_sub, rdBin_mul, rdBin_lss, rdBin_leq, rdBin_gtr, rdBin_geq, rdBin_eql, rdBin_neq, rdBin_seql, rdBin_sneq, unV_not, bvK_bool, bK_true, bK_false, Bool.not_true, Bool.not_false, Bool.not_not, rdNil_ep, rdNil_ptr, oneCell_sl, ldV_sl, vEq_self, List.length_nil, Int.cast_ofNat_Int, Int.reduceEq, Int.reduceLT, Int.reduceLE, decide_true, decide_false, eq_self, Bool.and_self, fa_25_0, fa_25_1, fa_25_2, fa_25_3, fa_25_4, fa_25_5, fa_67_0, fa_67_1, fa_67_2, fa_67_3, fa_69_0, fa_69_1, fa_69_2, fa_71_0, fa_71_1, fa_71_2, fa_71_3, fa_95_0, fa_95_1, fa_95_2, fa_102_0, fa_125_0, fa_125_1, fa_125_2, fa_125_3, fa_125_4, fa_145_0, fa_145_1, fa_177_0, fa_177_1, fp_25_0, fp_25_1, fp_25_2, fp_25_3, fp_25_4, fp_25_5, fp_67_0, fp_67_1, fp_67_2, fp_67_3, fp_69_0, fp_69_1, fp_69_2, fp_71_0, fp_71_1, fp_71_2, fp_71_3, fp_102_0, fp_125_0, fp_125_1, fp_125_2, fp_125_3, fp_125_4, fp_177_0, fp_177_1, fp_177_2, fp_177_3, ld_2, ld_3, ld_9, ld_22, ld_23, ld_25, ld_30, ld_63, ld_64, ld_65, ld_67, ld_69, ld_71, ld_100, ld_125, ld_141, ld_177, len_9, len_22, lenS_22, lenN_22, len_23, lenS_23, lenN_23, len_30, lenS_30, lenN_30, len_63, lenS_63, lenN_63, len_64, lenS_64, lenN_64, len_65, lenS_65, lenN_65, len_148, lenS_148, lenN_148, len_205, lenS_205, lenN_205, beql_4, pneq_141, pneq0_141, s.v_eq]
  refine Wq.call (pu_51 s.to hR.1) hA fun H1 nx1 hA1 => ?_
  simp only [oneCell_int, oneCell_str, oneCell_bool, oneCell_row, oneCell_ep, oneCell_nilp, cond_true, cond_false, optK_some, ldV_int, ldV_str, ldV_bool, ldV_row, ldV_ep, ldV_nilp, rdBin_add, rdBin_sub, rdBin_mul, rdBin_lss, rdBin_leq, rdBin_gtr, rdBin_geq, rdBin_eql, rdBin_neq, rdBin_seql, rdBin_sneq, unV_not, bvK_bool, bK_true, bK_false, Bool.not_true, Bool.not_false, Bool.not_not, rdNil_ep, rdNil_ptr, oneCell_sl, ldV_sl, vEq_self, List.length_nil, Int.cast_ofNat_Int, Int.reduceEq, Int.reduceLT, Int.reduceLE, decide_true, decide_false, eq_self, Bool.and_self, fa_25_0, fa_25_1, fa_25_2, fa_25_3, fa_25_4, fa_25_5, fa_67_0, fa_67_1, fa_67_2, fa_67_3, fa_69_0, fa_69_1, fa_69_2, fa_71_0, fa_71_1, fa_71_2, fa_71_3, fa_95_0, fa_95_1, fa_95_2, fa_102_0, fa_125_0, fa_125_1, fa_125_2, fa_125_3, fa_125_4, fa_145_0, fa_145_1, fa_177_0, fa_177_1, fp_25_0, fp_25_1, fp_25_2, fp_25_3, fp_25_4, fp_25_5, fp_67_0, fp_67_1, fp_67_2, fp_67_3, fp_69_0, fp_69_1, fp_69_2, fp_71_0, fp_71_1, fp_71_2, fp_71_3, fp_102_0, fp_125_0, fp_125_1, fp_125_2, fp_125_3, fp_125_4, fp_177_0, fp_177_1, fp_177_2, fp_177_3, ld_2, ld_3, ld_9, ld_22, ld_23, ld_25, ld_30, ld_63, ld_64, ld_65, ld_67, ld_69, ld_71, ld_100, ld_125, ld_141, ld_177, len_9, len_22, lenS_22, lenN_22, len_23, lenS_23, lenN_23, len_30, lenS_30, lenN_30, len_63, lenS_63, lenN_63, len_64, lenS_64, lenN_64, len_65, lenS_65, lenN_65, len_148, lenS_148, lenN_148, len_205, lenS_205, lenN_205, beql_4, pneq_141, pneq0_141, Bool.and_true]
  rw [rdAdd_txt 9 true [32, 37] (dig s.to) (by simp; omega), optK_some]
  refine Wq.call (pu_51 s.n hR.2) hA1 fun H2 nx2 hA2 => ?_
  rw [rdAdd_txt 9 true [32, 37] (dig s.to) (by simp; omega)]
  simp only [oneCell_int, oneCell_str, oneCell_bool, oneCell_row, oneCell_ep, oneCell_nilp, cond_true, cond_false, optK_some, ldV_int, ldV_str, ldV_bool, ldV_row, ldV_ep, ldV_nilp, rdBin_add, rdBin_sub, rdBin_mul, rdBin_lss, rdBin_leq, rdBin_gtr, rdBin_geq, rdBin_eql, rdBin_neq, rdBin_seql, rdBin_sneq, unV_not, bvK_bool, bK_true, bK_false, Bool.not_true, Bool.not_false, Bool.not_not, rdNil_ep, rdNil_ptr, oneCell_sl, ldV_sl, vEq_self, List.length_nil, Int.cast_ofNat_Int, Int.reduceEq, Int.reduceLT, Int.reduceLE, decide_true, decide_false, eq_self, Bool.and_self, fa_25_0, fa_25_1, fa_25_2, fa_25_3, fa_25_4, fa_25_5, fa_67_0, fa_67_1, fa_67_2, fa_67_3, fa_69_0, fa_69_1, fa_69_2, fa_71_0, fa_71_1, fa_71_2, fa_71_3, fa_95_0, fa_95_1, fa_95_2, fa_102_0, fa_125_0, fa_125_1, fa_125_2, fa_125_3, fa_125_4, fa_145_0, fa_145_1, fa_177_0, fa_177_1, fp_25_0, fp_25_1, fp_25_2, fp_25_3, fp_25_4, fp_25_5, fp_67_0, fp_67_1, fp_67_2, fp_67_3, fp_69_0, fp_69_1, fp_69_2, fp_71_0, fp_71_1, fp_71_2, fp_71_3, fp_102_0, fp_125_0, fp_125_1, fp_125_2, fp_125_3, fp_125_4, fp_177_0, fp_177_1, fp_177_2, fp_177_3, ld_2, ld_3, ld_9, ld_22, ld_23, ld_25, ld_30, ld_63, ld_64, ld_65, ld_67, ld_69, ld_71, ld_100, ld_125, ld_141, ld_177, len_9, len_22, lenS_22, lenN_22, len_23, lenS_23, lenN_23, len_30, lenS_30, lenN_30, len_63, lenS_63, lenN_63, len_64, lenS_64, lenN_64, len_65, lenS_65, lenN_65, len_148, lenS_148, lenN_148, len_205, lenS_205, lenN_205, beql_4, pneq_141, pneq0_141, Bool.and_true]
  rw [rdAdd_txt 9 true [32] (dig s.n) (by simp; omega), optK_some]
  generalize hx : sT s.k s.to s.n = x
  unfold sT at hx
  refine Wq.ite (fun h => ?_) (fun h1 => ?_)
  · rw [if_pos h] at hx
    rw [rdAdd_txt 9 true _ _ (by simp; omega), optK_some]
    exact Wq.retE (by rw [← hx]) hA2
  rw [if_neg h1] at hx
  refine Wq.ite (fun h => ?_) (fun h2 => ?_)
  · rw [if_pos h] at hx
    obtain ⟨b, c, d, e, hp⟩ := pu_114n s.n
    refine Wq.call hp hA2 fun H3 nx3 hA3 => ?_
    have x0 : rdExtract (some (Value.tuple ⟨[.agg ⟨[txt (name s.n), .string b, .string c, .string d]⟩, .bool e]⟩)) 0 = some (.agg ⟨[txt (name s.n), .string b, .string c, .string d]⟩) := rfl
    have x1 : rdExtract (some (Value.tuple ⟨[.agg ⟨[txt (name s.n), .string b, .string c, .string d]⟩, .bool e]⟩)) 1 = some (.bool e) := rfl
    simp only [oneCell_int, oneCell_str, oneCell_bool, oneCell_row, oneCell_ep, oneCell_nilp, cond_true, cond_false, optK_some, ldV_int, ldV_str, ldV_bool, ldV_row, ldV_ep, ldV_nilp, rdBin_add, rdBin_sub, rdBin_mul, rdBin_lss, rdBin_leq, rdBin_gtr, rdBin_geq, rdBin_eql, rdBin_neq, rdBin_seql, rdBin_sneq, unV_not, bvK_bool, bK_true, bK_false, Bool.not_true, Bool.not_false, Bool.not_not, rdNil_ep, rdNil_ptr, oneCell_sl, ldV_sl, vEq_self, List.length_nil, Int.cast_ofNat_Int, Int.reduceEq, Int.reduceLT, Int.reduceLE, decide_true, decide_false, eq_self, Bool.and_self, fa_25_0, fa_25_1, fa_25_2, fa_25_3, fa_25_4, fa_25_5, fa_67_0, fa_67_1, fa_67_2, fa_67_3, fa_69_0, fa_69_1, fa_69_2, fa_71_0, fa_71_1, fa_71_2, fa_71_3, fa_95_0, fa_95_1, fa_95_2, fa_102_0, fa_125_0, fa_125_1, fa_125_2, fa_125_3, fa_125_4, fa_145_0, fa_145_1, fa_177_0, fa_177_1, fp_25_0, fp_25_1, fp_25_2, fp_25_3, fp_25_4, fp_25_5, fp_67_0, fp_67_1, fp_67_2, fp_67_3, fp_69_0, fp_69_1, fp_69_2, fp_71_0, fp_71_1, fp_71_2, fp_71_3, fp_102_0, fp_125_0, fp_125_1, fp_125_2, fp_125_3, fp_125_4, fp_177_0, fp_177_1, fp_177_2, fp_177_3, ld_2, ld_3, ld_9, ld_22, ld_23, ld_25, ld_30, ld_63, ld_64, ld_65, ld_67, ld_69, ld_71, ld_100, ld_125, ld_141, ld_177, len_9, len_22, lenS_22, lenN_22, len_23, lenS_23, lenN_23, len_30, lenS_30, lenN_30, len_63, lenS_63, lenN_63, len_64, lenS_64, lenN_64, len_65, lenS_65, lenN_65, len_148, lenS_148, lenN_148, len_205, lenS_205, lenN_205, beql_4, pneq_141, pneq0_141, x0, x1]
    refine Wq.var zero_177 sz_177 rfl rfl rfl hA3 fun H4 nx4 hA4 => ?_
    rw [rdAdd_txt 9 true _ _ (by simp; omega), optK_some, rdAdd_txt 9 false _ _ (by simp; omega), optK_some]
    exact Wq.retE (by rw [← hx]; simp) hA4
  rw [if_neg h2] at hx
  refine Wq.ite (fun h => ?_) (fun h3 => ?_)
  · rw [if_pos h] at hx
    rw [rdAdd_txt 9 true _ _ (by simp; omega), optK_some]
    exact Wq.retE (by rw [← hx]) hA2
  rw [if_neg h3] at hx
  refine Wq.ite (fun h => ?_) (fun h4 => ?_)
  · rw [if_pos h] at hx
    rw [rdAdd_txt 9 true _ _ (by simp; omega), optK_some, rdAdd_txt 9 false _ _ (by simp; omega), optK_some]
    exact Wq.retE (by rw [← hx]; simp) hA2
  rw [if_neg h4] at hx
  refine Wq.ite (fun h => ?_) (fun h5 => ?_)
  · rw [if_pos h] at hx
    rw [rdAdd_txt 9 true _ _ (by simp; omega), optK_some]
    exact Wq.retE (by rw [← hx]) hA2
  rw [if_neg h5] at hx
  refine Wq.ite (fun h => ?_) (fun h6 => ?_)
  · rw [if_pos h] at hx
    rw [rdAdd_txt 9 true _ _ (by simp; omega), optK_some, rdAdd_txt 9 false _ _ (by simp; omega), optK_some]
    exact Wq.retE (by rw [← hx]; simp) hA2
  rw [if_neg h6] at hx
  refine Wq.ite (fun h => ?_) (fun h7 => ?_)
  · rw [if_pos h] at hx
    rw [rdAdd_txt 9 true _ _ (by simp; omega), optK_some]
    exact Wq.retE (by rw [← hx]) hA2
  rw [if_neg h7] at hx
  refine Wq.ite (fun h => ?_) (fun h8 => ?_)
  · rw [if_pos h] at hx
    refine Wq.call (pu_51 s.n hR.2) hA2 fun H3 nx3 hA3 => ?_
    rw [rdAdd_txt 9 true _ _ (by simp; omega), optK_some]
    exact Wq.retE (by rw [← hx]) hA3
  rw [if_neg h8] at hx
  refine Wq.ite (fun h => ?_) (fun h9 => ?_)
  · rw [if_pos h] at hx
    rw [rdAdd_txt 9 true _ _ (by simp; omega), optK_some]
    exact Wq.retE (by rw [← hx]) hA2
  rw [if_neg h9] at hx
  rw [rdAdd_txt 9 true _ _ (by simp; omega), optK_some, rdAdd_txt 9 true _ _ (by simp; omega)]
  simp only [oneCell_int, oneCell_str, oneCell_bool, oneCell_row, oneCell_ep, oneCell_nilp, cond_true, cond_false, optK_some, ldV_int, ldV_str, ldV_bool, ldV_row, ldV_ep, ldV_nilp, rdBin_add, rdBin_sub, rdBin_mul, rdBin_lss, rdBin_leq, rdBin_gtr, rdBin_geq, rdBin_eql, rdBin_neq, rdBin_seql, rdBin_sneq, unV_not, bvK_bool, bK_true, bK_false, Bool.not_true, Bool.not_false, Bool.not_not, rdNil_ep, rdNil_ptr, oneCell_sl, ldV_sl, vEq_self, List.length_nil, Int.cast_ofNat_Int, Int.reduceEq, Int.reduceLT, Int.reduceLE, decide_true, decide_false, eq_self, Bool.and_self, fa_25_0, fa_25_1, fa_25_2, fa_25_3, fa_25_4, fa_25_5, fa_67_0, fa_67_1, fa_67_2, fa_67_3, fa_69_0, fa_69_1, fa_69_2, fa_71_0, fa_71_1, fa_71_2, fa_71_3, fa_95_0, fa_95_1, fa_95_2, fa_102_0, fa_125_0, fa_125_1, fa_125_2, fa_125_3, fa_125_4, fa_145_0, fa_145_1, fa_177_0, fa_177_1, fp_25_0, fp_25_1, fp_25_2, fp_25_3, fp_25_4, fp_25_5, fp_67_0, fp_67_1, fp_67_2, fp_67_3, fp_69_0, fp_69_1, fp_69_2, fp_71_0, fp_71_1, fp_71_2, fp_71_3, fp_102_0, fp_125_0, fp_125_1, fp_125_2, fp_125_3, fp_125_4, fp_177_0, fp_177_1, fp_177_2, fp_177_3, ld_2, ld_3, ld_9, ld_22, ld_23, ld_25, ld_30, ld_63, ld_64, ld_65, ld_67, ld_69, ld_71, ld_100, ld_125, ld_141, ld_177, len_9, len_22, lenS_22, lenN_22, len_23, lenS_23, lenN_23, len_30, lenS_30, lenN_30, len_63, lenS_63, lenN_63, len_64, lenS_64, lenN_64, len_65, lenS_65, lenN_65, len_148, lenS_148, lenN_148, len_205, lenS_205, lenN_205, beql_4, pneq_141, pneq0_141]
  refine Wq.call (pu_51 s.n hR.2) hA2 fun H3 nx3 hA3 => ?_
  rw [rdAdd_txt 9 false _ _ (by simp; omega), optK_some]
  exact Wq.retE (by rw [← hx]; simp) hA3
/-- The document's text of a block: what is told of it. -/
def okT (b : Block) : Prop := bSm b → bR b → (tB b).length ≤ 1000000 → Pu 52 [b.v] (txt (tB b))
theorem w_88_17 {nx0 : Nat} {H0 : T OB} (bs : List Block) (hp : ∀ c, c ∈ bs → okT c) (hsm : ∀ c, c ∈ bs → bSm c) (hR : ∀ c, c ∈ bs → bR c) (hl : bs.length < big) (r : List UInt8) (hlen : r.length + (tBs bs).length + 1 ≤ 1000000) (H1 : T OB) (nx1 : Nat) (hA : Ag nx0 H0 nx1 H1) :
    Wq P pl X (.jump (l88_17 (rowV 4 (bs.map Block.v)) (txt r) (i64 ((0 : Nat) : Int)) H1 nx1)) nx0 H0 (txt (r ++ (tBs bs ++ [41]))) := by
  have hbig : big = 1125899906842624 := rfl
  refine Wq.eachI bs (fun t s => s.length + (tBs t).length + 1 ≤ 1000000) (fun i s H nx => .jump (l88_17 (rowV 4 (bs.map Block.v)) (txt s) (i64 (i : Int)) H nx)) (fun t s => txt (s ++ (tBs t ++ [41]))) (fun s H1 nx1 hI hA => ?_) (fun i c t s H1 nx1 hg hi ht hI hA ih => ?_) r _ _ hlen hA
  · refine Wq.jmp (q88_17 ..) (fun _ => rfl) ?_
    rw [tBs] at hI ⊢
    simp only [oneCell_int, oneCell_str, oneCell_bool, oneCell_row, oneCell_ep, oneCell_nilp, cond_true, cond_false, optK_some, ldV_int, ldV_str, ldV_bool, ldV_row, ldV_ep, ldV_nilp, rdBin_add, rdBin_sub, rdBin_mul, rdBin_lss, rdBin_leq, rdBin_gtr, rdBin_geq, rdBin_eql, rdBin_neq, rdBin_seql, rdBin_sneq, unV_not, bvK_bool, bK_true, bK_false, Bool.not_true, Bool.not_false, Bool.not_not, rdNil_ep, rdNil_ptr, oneCell_sl, ldV_sl, vEq_self, List.length_nil, Int.cast_ofNat_Int, Int.reduceEq, Int.reduceLT, Int.reduceLE, decide_true, decide_false, eq_self, Bool.and_self, fa_25_0, fa_25_1, fa_25_2, fa_25_3, fa_25_4, fa_25_5, fa_67_0, fa_67_1, fa_67_2, fa_67_3, fa_69_0, fa_69_1, fa_69_2, fa_71_0, fa_71_1, fa_71_2, fa_71_3, fa_95_0, fa_95_1, fa_95_2, fa_102_0, fa_125_0, fa_125_1, fa_125_2, fa_125_3, fa_125_4, fa_145_0, fa_145_1, fa_177_0, fa_177_1, fp_25_0, fp_25_1, fp_25_2, fp_25_3, fp_25_4, fp_25_5, fp_67_0, fp_67_1, fp_67_2, fp_67_3, fp_69_0, fp_69_1, fp_69_2, fp_71_0, fp_71_1, fp_71_2, fp_71_3, fp_102_0, fp_125_0, fp_125_1, fp_125_2, fp_125_3, fp_125_4, fp_177_0, fp_177_1, fp_177_2, fp_177_3, ld_2, ld_3, ld_9, ld_22, ld_23, ld_25, ld_30, ld_63, ld_64, ld_65, ld_67, ld_69, ld_71, ld_100, ld_125, ld_141, ld_177, len_9, len_22, lenS_22, lenN_22, len_23, lenS_23, lenN_23, len_30, lenS_30, lenN_30, len_63, lenS_63, lenN_63, len_64, lenS_64, lenN_64, len_65, lenS_65, lenN_65, len_148, lenS_148, lenN_148, len_205, lenS_205, lenN_205, beql_4, pneq_141, pneq0_141, List.length_map, not_lt_len]
    rw [rdAdd_txt 9 true s [41] (by simp at hI ⊢; omega), optK_some]
    exact Wq.ret hA
  · refine Wq.jmp (q88_17 ..) (fun _ => rfl) ?_
    have hg' : (bs.map Block.v)[i]? = some c.v := by simp [hg]
    have hc : c ∈ bs := List.mem_of_getElem? hg
    rw [tBs] at hI
    simp only [List.length_cons, List.length_append] at hI
    have hq := hp c hc (hsm c hc) (hR c hc) (by omega)
    rw [c.v_eq] at hg' hq
    simp only [oneCell_int, oneCell_str, oneCell_bool, oneCell_row, oneCell_ep, oneCell_nilp, cond_true, cond_false, optK_some, ldV_int, ldV_str, ldV_bool, ldV_row, ldV_ep, ldV_nilp, rdBin_add, rdBin_sub, rdBin_mul, rdBin_lss, rdBin_leq, rdBin_gtr, rdBin_geq, rdBin_eql, rdBin_neq, rdBin_seql, rdBin_sneq, unV_not, bvK_bool, bK_true, bK_false, Bool.not_true, Bool.not_false, Bool.not_not, rdNil_ep, rdNil_ptr, oneCell_sl, ldV_sl, vEq_self, List.length_nil, Int.cast_ofNat_Int, Int.reduceEq, Int.reduceLT, Int.reduceLE, decide_true, decide_false, eq_self, Bool.and_self, fa_25_0, fa_25_1, fa_25_2, fa_25_3, fa_25_4, fa_25_5, fa_67_0, fa_67_1, fa_67_2, fa_67_3, fa_69_0, fa_69_1, fa_69_2, fa_71_0, fa_71_1, fa_71_2, fa_71_3, fa_95_0, fa_95_1, fa_95_2, fa_102_0, fa_125_0, fa_125_1, fa_125_2, fa_125_3, fa_125_4, fa_145_0, fa_145_1, fa_177_0, fa_177_1, fp_25_0, fp_25_1, fp_25_2, fp_25_3, fp_25_4, fp_25_5, fp_67_0, fp_67_1, fp_67_2, fp_67_3, fp_69_0, fp_69_1, fp_69_2, fp_71_0, fp_71_1, fp_71_2, fp_71_3, fp_102_0, fp_125_0, fp_125_1, fp_125_2, fp_125_3, fp_125_4, fp_177_0, fp_177_1, fp_177_2, fp_177_3, ld_2, ld_3, ld_9, ld_22, ld_23, ld_25, ld_30, ld_63, ld_64, ld_65, ld_67, ld_69, ld_71, ld_100, ld_125, ld_141, ld_177, len_9, len_22, lenS_22, lenN_22, len_23, lenS_23, lenN_23, len_30, lenS_30, lenN_30, len_63, lenS_63, lenN_63, len_64, lenS_64, lenN_64, len_65, lenS_65, lenN_65, len_148, lenS_148, lenN_148, len_205, lenS_205, lenN_205, beql_4, pneq_141, pneq0_141, List.length_map, is_lt_len hi]
    rw [rdAdd_txt 9 true s [32] (by simp; omega), optK_some]
    simp only [oneCell_int, oneCell_str, oneCell_bool, oneCell_row, oneCell_ep, oneCell_nilp, cond_true, cond_false, optK_some, ldV_int, ldV_str, ldV_bool, ldV_row, ldV_ep, ldV_nilp, rdBin_add, rdBin_sub, rdBin_mul, rdBin_lss, rdBin_leq, rdBin_gtr, rdBin_geq, rdBin_eql, rdBin_neq, rdBin_seql, rdBin_sneq, unV_not, bvK_bool, bK_true, bK_false, Bool.not_true, Bool.not_false, Bool.not_not, rdNil_ep, rdNil_ptr, oneCell_sl, ldV_sl, vEq_self, List.length_nil, Int.cast_ofNat_Int, Int.reduceEq, Int.reduceLT, Int.reduceLE, decide_true, decide_false, eq_self, Bool.and_self, fa_25_0, fa_25_1, fa_25_2, fa_25_3, fa_25_4, fa_25_5, fa_67_0, fa_67_1, fa_67_2, fa_67_3, fa_69_0, fa_69_1, fa_69_2, fa_71_0, fa_71_1, fa_71_2, fa_71_3, fa_95_0, fa_95_1, fa_95_2, fa_102_0, fa_125_0, fa_125_1, fa_125_2, fa_125_3, fa_125_4, fa_145_0, fa_145_1, fa_177_0, fa_177_1, fp_25_0, fp_25_1, fp_25_2, fp_25_3, fp_25_4, fp_25_5, fp_67_0, fp_67_1, fp_67_2, fp_67_3, fp_69_0, fp_69_1, fp_69_2, fp_71_0, fp_71_1, fp_71_2, fp_71_3, fp_102_0, fp_125_0, fp_125_1, fp_125_2, fp_125_3, fp_125_4, fp_177_0, fp_177_1, fp_177_2, fp_177_3, ld_2, ld_3, ld_9, ld_22, ld_23, ld_25, ld_30, ld_63, ld_64, ld_65, ld_67, ld_69, ld_71, ld_100, ld_125, ld_141, ld_177, len_9, len_22, lenS_22, lenN_22, len_23, lenS_23, lenN_23, len_30, lenS_30, lenN_30, len_63, lenS_63, lenN_63, len_64, lenS_64, lenN_64, len_65, lenS_65, lenN_65, len_148, lenS_148, lenN_148, len_205, lenS_205, lenN_205, beql_4, pneq_141, pneq0_141, ix_65 hg', wrap_succ (show i < 9223372036854775807 by omega)]
    refine Wq.call hq hA fun H2 nx2 hA2 => ?_
    rw [rdAdd_txt 9 false (s ++ [32]) (tB c) (by simp; omega), optK_some]
    have := ih (s ++ [32] ++ tB c) _ _ (by simp; omega) hA2
    rw [tBs]
    simpa [List.append_assoc] using this
theorem pu_88 (ar : List Atom) (bs : List Block) (har : aSm ar) (hRa : ∀ a, a ∈ ar → aR a) (hp : ∀ c, c ∈ bs → okT c) (hsm : ∀ c, c ∈ bs → bSm c) (hR : ∀ c, c ∈ bs → bR c) (hl : bs.length < big) (hlen : (tR ar bs).length ≤ 1000000) : Pu 88 [atomsV ar, rowV 4 (bs.map Block.v)] (txt (tR ar bs)) := Pure.of rfl fun H nx => by
  have hbig : big = 1125899906842624 := rfl
  rw [q88]
  have har1 := har.1
  unfold tR at hlen
  rw [List.length_append, List.length_append, List.length_singleton] at hlen
  refine Wq.eachI ar (fun t s => s.length + (tAs t).length + (tBs bs).length + 1 ≤ 1000000) (fun i s H nx => .jump (l88_9 (atomsV ar) (rowV 4 (bs.map Block.v)) (txt s) (i64 (i : Int)) H nx)) (fun t s => txt (s ++ (tAs t ++ (tBs bs ++ [41])))) (fun s H1 nx1 hI hA => ?_) (fun i a t s H1 nx1 hg hi ht hI hA ih => ?_) [] _ _ (by simp; omega) (.refl _ _)
  · refine Wq.jmp (q88_9 ..) (fun _ => rfl) ?_
    rw [tAs] at hI ⊢
    simp only [oneCell_int, oneCell_str, oneCell_bool, oneCell_row, oneCell_ep, oneCell_nilp, cond_true, cond_false, optK_some, ldV_int, ldV_str, ldV_bool, ldV_row, ldV_ep, ldV_nilp, rdBin_add, rdBin_sub, rdBin_mul, rdBin_lss, rdBin_leq, rdBin_gtr, rdBin_geq, rdBin_eql, rdBin_neq, rdBin_seql, rdBin_sneq, unV_not, bvK_bool, bK_true, bK_false, Bool.not_true, Bool.not_false, Bool.not_not, rdNil_ep, rdNil_ptr, oneCell_sl, ldV_sl, vEq_self, List.length_nil, Int.cast_ofNat_Int, Int.reduceEq, Int.reduceLT, Int.reduceLE, decide_true, decide_false, eq_self, Bool.and_self, fa_25_0, fa_25_1, fa_25_2, fa_25_3, fa_25_4, fa_25_5, fa_67_0, fa_67_1, fa_67_2, fa_67_3, fa_69_0, fa_69_1, fa_69_2, fa_71_0, fa_71_1, fa_71_2, fa_71_3, fa_95_0, fa_95_1, fa_95_2, fa_102_0, fa_125_0, fa_125_1, fa_125_2, fa_125_3, fa_125_4, fa_145_0, fa_145_1, fa_177_0, fa_177_1, fp_25_0, fp_25_1, fp_25_2, fp_25_3, fp_25_4, fp_25_5, fp_67_0, fp_67_1, fp_67_2, fp_67_3, fp_69_0, fp_69_1, fp_69_2, fp_71_0, fp_71_1, fp_71_2, fp_71_3, fp_102_0, fp_125_0, fp_125_1, fp_125_2, fp_125_3, fp_125_4, fp_177_0, fp_177_1, fp_177_2, fp_177_3, ld_2, ld_3, ld_9, ld_22, ld_23, ld_25, ld_30, ld_63, ld_64, ld_65, ld_67, ld_69, ld_71, ld_100, ld_125, ld_141, ld_177, len_9, len_22, lenS_22, lenN_22, len_23, lenS_23, lenN_23, len_30, lenS_30, lenN_30, len_63, lenS_63, lenN_63, len_64, lenS_64, lenN_64, len_65, lenS_65, lenN_65, len_148, lenS_148, lenN_148, len_205, lenS_205, lenN_205, beql_4, pneq_141, pneq0_141, atomsV, List.length_map, not_lt_len]
    exact w_88_17 bs hp hsm hR hl s (by simp at hI; omega) _ _ hA
  · refine Wq.jmp (q88_9 ..) (fun _ => rfl) ?_
    have hg' : (ar.map Atom.v)[i]? = some a.v := by simp [hg]
    have hc : a ∈ ar := List.mem_of_getElem? hg
    rw [tAs] at hI
    simp only [List.length_cons, List.length_append] at hI
    have hq := pu_115 a (hRa a hc) (by omega)
    rw [Atom.v] at hg' hq
    simp only [oneCell_int, oneCell_str, oneCell_bool, oneCell_row, oneCell_ep, oneCell_nilp, cond_true, cond_false, optK_some, ldV_int, ldV_str, ldV_bool, ldV_row, ldV_ep, ldV_nilp, rdBin_add, rdBin_sub, rdBin_mul, rdBin_lss, rdBin_leq, rdBin_gtr, rdBin_geq, rdBin_eql, rdBin_neq, rdBin_seql, rdBin_sneq, unV_not, bvK_bool, bK_true, bK_false, Bool.not_true, Bool.not_false, Bool.not_not, rdNil_ep, rdNil_ptr, oneCell_sl, ldV_sl, vEq_self, List.length_nil, Int.cast_ofNat_Int, Int.reduceEq, Int.reduceLT, Int.reduceLE, decide_true, decide_false, eq_self, Bool.and_self, fa_25_0, fa_25_1, fa_25_2, fa_25_3, fa_25_4, fa_25_5, fa_67_0, fa_67_1, fa_67_2, fa_67_3, fa_69_0, fa_69_1, fa_69_2, fa_71_0, fa_71_1, fa_71_2, fa_71_3, fa_95_0, fa_95_1, fa_95_2, fa_102_0, fa_125_0, fa_125_1, fa_125_2, fa_125_3, fa_125_4, fa_145_0, fa_145_1, fa_177_0, fa_177_1, fp_25_0, fp_25_1, fp_25_2, fp_25_3, fp_25_4, fp_25_5, fp_67_0, fp_67_1, fp_67_2, fp_67_3, fp_69_0, fp_69_1, fp_69_2, fp_71_0, fp_71_1, fp_71_2, fp_71_3, fp_102_0, fp_125_0, fp_125_1, fp_125_2, fp_125_3, fp_125_4, fp_177_0, fp_177_1, fp_177_2, fp_177_3, ld_2, ld_3, ld_9, ld_22, ld_23, ld_25, ld_30, ld_63, ld_64, ld_65, ld_67, ld_69, ld_71, ld_100, ld_125, ld_141, ld_177, len_9, len_22, lenS_22, lenN_22, len_23, lenS_23, lenN_23, len_30, lenS_30, lenN_30, len_63, lenS_63, lenN_63, len_64, lenS_64, lenN_64, len_65, lenS_65, lenN_65, len_148, lenS_148, lenN_148, len_205, lenS_205, lenN_205, beql_4, pneq_141, pneq0_141, atomsV, List.length_map, is_lt_len hi]
    rw [rdAdd_txt 9 true s [32] (by simp; omega), optK_some]
    simp only [oneCell_int, oneCell_str, oneCell_bool, oneCell_row, oneCell_ep, oneCell_nilp, cond_true, cond_false, optK_some, ldV_int, ldV_str, ldV_bool, ldV_row, ldV_ep, ldV_nilp, rdBin_add, rdBin_sub, rdBin_mul, rdBin_lss, rdBin_leq, rdBin_gtr, rdBin_geq, rdBin_eql, rdBin_neq, rdBin_seql, rdBin_sneq, unV_not, bvK_bool, bK_true, bK_false, Bool.not_true, Bool.not_false, Bool.not_not, rdNil_ep, rdNil_ptr, oneCell_sl, ldV_sl, vEq_self, List.length_nil, Int.cast_ofNat_Int, Int.reduceEq, Int.reduceLT, Int.reduceLE, decide_true, decide_false, eq_self, Bool.and_self, fa_25_0, fa_25_1, fa_25_2, fa_25_3, fa_25_4, fa_25_5, fa_67_0, fa_67_1, fa_67_2, fa_67_3, fa_69_0, fa_69_1, fa_69_2, fa_71_0, fa_71_1, fa_71_2, fa_71_3, fa_95_0, fa_95_1, fa_95_2, fa_102_0, fa_125_0, fa_125_1, fa_125_2, fa_125_3, fa_125_4, fa_145_0, fa_145_1, fa_177_0, fa_177_1, fp_25_0, fp_25_1, fp_25_2, fp_25_3, fp_25_4, fp_25_5, fp_67_0, fp_67_1, fp_67_2, fp_67_3, fp_69_0, fp_69_1, fp_69_2, fp_71_0, fp_71_1, fp_71_2, fp_71_3, fp_102_0, fp_125_0, fp_125_1, fp_125_2, fp_125_3, fp_125_4, fp_177_0, fp_177_1, fp_177_2, fp_177_3, ld_2, ld_3, ld_9, ld_22, ld_23, ld_25, ld_30, ld_63, ld_64, ld_65, ld_67, ld_69, ld_71, ld_100, ld_125, ld_141, ld_177, len_9, len_22, lenS_22, lenN_22, len_23, lenS_23, lenN_23, len_30, lenS_30, lenN_30, len_63, lenS_63, lenN_63, len_64, lenS_64, lenN_64, len_65, lenS_65, lenN_65, len_148, lenS_148, lenN_148, len_205, lenS_205, lenN_205, beql_4, pneq_141, pneq0_141, ix_64 hg', wrap_succ (show i < 9223372036854775807 by omega)]
    refine Wq.call hq hA fun H2 nx2 hA2 => ?_
    rw [rdAdd_txt 9 false (s ++ [32]) (atx a) (by simp; omega), optK_some]
    have := ih (s ++ [32] ++ atx a) _ _ (by simp; omega) hA2
    rw [tAs]
    rw [atomsV] at this
    simpa [List.append_assoc] using this
theorem okT_all (b : Block) : okT b := by
  refine Block.ind (p := okT) (fun b hs hb => ?_) b
  intro hsm hR hlen
  have hbig : big = 1125899906842624 := rfl
  rw [bSm_iff] at hsm
  rw [bR_iff] at hR
  refine Pure.of rfl fun H nx => ?_
  rw [q52]
  refine Wq.natF' (.refl _ _) fun hA => ?_
  rw [tB_eq] at hlen ⊢
  simp only [List.length_append] at hlen
  have p88 := pu_88 b.args b.blocks hsm.2.1 hR.1 hb hsm.2.2.2.2 hR.2.2 hsm.2.2.1 (by omega)
  have L30 : ∀ (r : List UInt8) H1 nx1, r.length + (tR b.args b.blocks).length ≤ 1000000 → Ag nx H nx1 H1 → Wq P pl X (.jump (l52_30 (eptrV b.v) (txt r) H1 nx1)) nx H (txt (r ++ (tR b.args b.blocks ++ [32, 93]))) := by
    intro r H1 nx1 hr hA1
    refine Wq.jmp (q52_30 ..) (fun _ => rfl) ?_
    simp only [oneCell_int, oneCell_str, oneCell_bool, oneCell_row, oneCell_ep, oneCell_nilp, cond_true, cond_false, optK_some, ldV_int, ldV_str, ldV_bool, ldV_row, ldV_ep, ldV_nilp, rdBin_add, rdBin_sub, rdBin_mul, rdBin_lss, rdBin_leq, rdBin_gtr, rdBin_geq, rdBin_eql, rdBin_neq, rdBin_seql, rdBin_sneq, unV_not, bvK_bool, bK_true, bK_false, Bool.not_true, Bool.not_false, Bool.not_not, rdNil_ep, rdNil_ptr, oneCell_sl, ldV_sl, vEq_self, List.length_nil, Int.cast_ofNat_Int, Int.reduceEq, Int.reduceLT, Int.reduceLE, decide_true, decide_false, eq_self, Bool.and_self, fa_25_0, fa_25_1, fa_25_2, fa_25_3, fa_25_4, fa_25_5, fa_67_0, fa_67_1, fa_67_2, fa_67_3, fa_69_0, fa_69_1, fa_69_2, fa_71_0, fa_71_1, fa_71_2, fa_71_3, fa_95_0, fa_95_1, fa_95_2, fa_102_0, fa_125_0, fa_125_1, fa_125_2, fa_125_3, fa_125_4, fa_145_0, fa_145_1, fa_177_0, fa_177_1, fp_25_0, fp_25_1, fp_25_2, fp_25_3, fp_25_4, fp_25_5, fp_67_0, fp_67_1, fp_67_2, fp_67_3, fp_69_0, fp_69_1, fp_69_2, fp_71_0, fp_71_1, fp_71_2, fp_71_3, fp_102_0, fp_125_0, fp_125_1, fp_125_2, fp_125_3, fp_125_4, fp_177_0, fp_177_1, fp_177_2, fp_177_3, ld_2, ld_3, ld_9, ld_22, ld_23, ld_25, ld_30, ld_63, ld_64, ld_65, ld_67, ld_69, ld_71, ld_100, ld_125, ld_141, ld_177, len_9, len_22, lenS_22, lenN_22, len_23, lenS_23, lenN_23, len_30, lenS_30, lenN_30, len_63, lenS_63, lenN_63, len_64, lenS_64, lenN_64, len_65, lenS_65, lenN_65, len_148, lenS_148, lenN_148, len_205, lenS_205, lenN_205, beql_4, pneq_141, pneq0_141, b.v_eq, atomsV]
    refine Wq.call p88 hA1 fun H2 nx2 hA2 => ?_
    rw [rdAdd_txt 9 false r _ (by omega), optK_some, rdAdd_txt 9 true _ [32, 93] (by simp; omega), optK_some]
    exact Wq.retE (by simp) hA2
  refine Wq.eachI b.steps (fun t s => s.length + (tSs t).length + (eT b.e).length + (tR b.args b.blocks).length ≤ 1000000) (fun i s H nx => .jump (l52_9 (eptrV b.v) (txt s) (i64 (i : Int)) H nx)) (fun t s => txt (s ++ (tSs t ++ (eT b.e ++ (tR b.args b.blocks ++ [32, 93]))))) (fun s H1 nx1 hI hA => ?_) (fun i s t r H1 nx1 hg hi ht hI hA ih => ?_) [91, 32] _ _ (by simp at hlen ⊢; omega) hA
  · refine Wq.jmp (q52_9 ..) (fun _ => rfl) ?_
    rw [tSs] at hI ⊢
    simp only [oneCell_int, oneCell_str, oneCell_bool, oneCell_row, oneCell_ep, oneCell_nilp, cond_true, cond_false, optK_some, ldV_int, ldV_str, ldV_bool, ldV_row, ldV_ep, ldV_nilp, rdBin_add, rdBin_sub, rdBin_mul, rdBin_lss, rdBin_leq, rdBin_gtr, rdBin_geq, rdBin_eql, rdBin_neq, rdBin_seql, rdBin_sneq, unV_not, bvK_bool, bK_true, bK_false, Bool.not_true, Bool.not_false, Bool.not_not, rdNil_ep, rdNil_ptr, oneCell_sl, ldV_sl, vEq_self, List.length_nil, Int.cast_ofNat_Int, Int.reduceEq, Int.reduceLT, Int.reduceLE, decide_true, decide_false, eq_self, Bool.and_self, fa_25_0, fa_25_1, fa_25_2, fa_25_3, fa_25_4, fa_25_5, fa_67_0, fa_67_1, fa_67_2, fa_67_3, fa_69_0, fa_69_1, fa_69_2, fa_71_0, fa_71_1, fa_71_2, fa_71_3, fa_95_0, fa_95_1, fa_95_2, fa_102_0, fa_125_0, fa_125_1, fa_125_2, fa_125_3, fa_125_4, fa_145_0, fa_145_1, fa_177_0, fa_177_1, fp_25_0, fp_25_1, fp_25_2, fp_25_3, fp_25_4, fp_25_5, fp_67_0, fp_67_1, fp_67_2, fp_67_3, fp_69_0, fp_69_1, fp_69_2, fp_71_0, fp_71_1, fp_71_2, fp_71_3, fp_102_0, fp_125_0, fp_125_1, fp_125_2, fp_125_3, fp_125_4, fp_177_0, fp_177_1, fp_177_2, fp_177_3, ld_2, ld_3, ld_9, ld_22, ld_23, ld_25, ld_30, ld_63, ld_64, ld_65, ld_67, ld_69, ld_71, ld_100, ld_125, ld_141, ld_177, len_9, len_22, lenS_22, lenN_22, len_23, lenS_23, lenN_23, len_30, lenS_30, lenN_30, len_63, lenS_63, lenN_63, len_64, lenS_64, lenN_64, len_65, lenS_65, lenN_65, len_148, lenS_148, lenN_148, len_205, lenS_205, lenN_205, beql_4, pneq_141, pneq0_141, b.v_eq, List.length_map, not_lt_len]
    rw [← b.v_eq]
    generalize hx : eT b.e = x at hI ⊢
    unfold eT at hx
    simp only [List.length_nil] at hI
    refine Wq.ite (fun h => ?_) (fun h1 => ?_)
    · rw [if_pos h] at hx; subst hx
      rw [rdAdd_txt 9 true s _ (by simp at hI ⊢; omega), optK_some]
      have q := L30 (s ++ [40, 114, 101, 116, 117, 114, 110]) _ _ (by simp at hI ⊢; omega) hA; rw [List.append_assoc] at q; rw [List.nil_append]; exact q
    rw [if_neg h1] at hx
    refine Wq.ite (fun h => ?_) (fun h2 => ?_)
    · rw [if_pos h] at hx; subst hx
      rw [rdAdd_txt 9 true s _ (by simp at hI ⊢; omega), optK_some]
      have q := L30 (s ++ [40, 116, 97, 105, 108]) _ _ (by simp at hI ⊢; omega) hA; rw [List.append_assoc] at q; rw [List.nil_append]; exact q
    rw [if_neg h2] at hx
    refine Wq.ite (fun h => ?_) (fun h3 => ?_)
    · rw [if_pos h] at hx; subst hx
      rw [rdAdd_txt 9 true s _ (by simp at hI ⊢; omega), optK_some]
      have q := L30 (s ++ [40, 114, 97, 105, 115, 101]) _ _ (by simp at hI ⊢; omega) hA; rw [List.append_assoc] at q; rw [List.nil_append]; exact q
    rw [if_neg h3] at hx; subst hx
    rw [rdAdd_txt 9 true s _ (by simp at hI ⊢; omega), optK_some]
    have q := L30 (s ++ [40, 98, 114, 97, 110, 99, 104]) _ _ (by simp at hI ⊢; omega) hA; rw [List.append_assoc] at q; rw [List.nil_append]; exact q
  · refine Wq.jmp (q52_9 ..) (fun _ => rfl) ?_
    have hg' : (b.steps.map Step.v)[i]? = some s.v := by simp [hg]
    have hc : s ∈ b.steps := List.mem_of_getElem? hg
    rw [tSs, tS_eq] at hI
    simp only [List.length_cons, List.length_append] at hI
    have hsr := (stR_iff s).1 (hR.2.1 s hc)
    have hss := (stSm_iff s).1 (hsm.2.2.2.1 s hc)
    have p87 := pu_87 s ⟨hsr.1, hsr.2.1⟩
    have p88' := pu_88 s.args s.blocks hss.1 hsr.2.2.1 (hs s hc) hss.2.2 hsr.2.2.2 hss.2.1 (by omega)
    have hbl := hsm.1
    rw [s.v_eq] at hg' p87
    rw [atomsV] at p88' hg' p87
    simp only [oneCell_int, oneCell_str, oneCell_bool, oneCell_row, oneCell_ep, oneCell_nilp, cond_true, cond_false, optK_some, ldV_int, ldV_str, ldV_bool, ldV_row, ldV_ep, ldV_nilp, rdBin_add, rdBin_sub, rdBin_mul, rdBin_lss, rdBin_leq, rdBin_gtr, rdBin_geq, rdBin_eql, rdBin_neq, rdBin_seql, rdBin_sneq, unV_not, bvK_bool, bK_true, bK_false, Bool.not_true, Bool.not_false, Bool.not_not, rdNil_ep, rdNil_ptr, oneCell_sl, ldV_sl, vEq_self, List.length_nil, Int.cast_ofNat_Int, Int.reduceEq, Int.reduceLT, Int.reduceLE, decide_true, decide_false, eq_self, Bool.and_self, fa_25_0, fa_25_1, fa_25_2, fa_25_3, fa_25_4, fa_25_5, fa_67_0, fa_67_1, fa_67_2, fa_67_3, fa_69_0, fa_69_1, fa_69_2, fa_71_0, fa_71_1, fa_71_2, fa_71_3, fa_95_0, fa_95_1, fa_95_2, fa_102_0, fa_125_0, fa_125_1, fa_125_2, fa_125_3, fa_125_4, fa_145_0, fa_145_1, fa_177_0, fa_177_1, fp_25_0, fp_25_1, fp_25_2, fp_25_3, fp_25_4, fp_25_5, fp_67_0, fp_67_1, fp_67_2, fp_67_3, fp_69_0, fp_69_1, fp_69_2, fp_71_0, fp_71_1, fp_71_2, fp_71_3, fp_102_0, fp_125_0, fp_125_1, fp_125_2, fp_125_3, fp_125_4, fp_177_0, fp_177_1, fp_177_2, fp_177_3, ld_2, ld_3, ld_9, ld_22, ld_23, ld_25, ld_30, ld_63, ld_64, ld_65, ld_67, ld_69, ld_71, ld_100, ld_125, ld_141, ld_177, len_9, len_22, lenS_22, lenN_22, len_23, lenS_23, lenN_23, len_30, lenS_30, lenN_30, len_63, lenS_63, lenN_63, len_64, lenS_64, lenN_64, len_65, lenS_65, lenN_65, len_148, lenS_148, lenN_148, len_205, lenS_205, lenN_205, beql_4, pneq_141, pneq0_141, b.v_eq, atomsV, List.length_map, is_lt_len hi, ix_63 hg', wrap_succ (show i < 9223372036854775807 by omega)]
    refine Wq.call p87 hA fun H2 nx2 hA2 => ?_
    simp only [oneCell_int, oneCell_str, oneCell_bool, oneCell_row, oneCell_ep, oneCell_nilp, cond_true, cond_false, optK_some, ldV_int, ldV_str, ldV_bool, ldV_row, ldV_ep, ldV_nilp, rdBin_add, rdBin_sub, rdBin_mul, rdBin_lss, rdBin_leq, rdBin_gtr, rdBin_geq, rdBin_eql, rdBin_neq, rdBin_seql, rdBin_sneq, unV_not, bvK_bool, bK_true, bK_false, Bool.not_true, Bool.not_false, Bool.not_not, rdNil_ep, rdNil_ptr, oneCell_sl, ldV_sl, vEq_self, List.length_nil, Int.cast_ofNat_Int, Int.reduceEq, Int.reduceLT, Int.reduceLE, decide_true, decide_false, eq_self, Bool.and_self, fa_25_0, fa_25_1, fa_25_2, fa_25_3, fa_25_4, fa_25_5, fa_67_0, fa_67_1, fa_67_2, fa_67_3, fa_69_0, fa_69_1, fa_69_2, fa_71_0, fa_71_1, fa_71_2, fa_71_3, fa_95_0, fa_95_1, fa_95_2, fa_102_0, fa_125_0, fa_125_1, fa_125_2, fa_125_3, fa_125_4, fa_145_0, fa_145_1, fa_177_0, fa_177_1, fp_25_0, fp_25_1, fp_25_2, fp_25_3, fp_25_4, fp_25_5, fp_67_0, fp_67_1, fp_67_2, fp_67_3, fp_69_0, fp_69_1, fp_69_2, fp_71_0, fp_71_1, fp_71_2, fp_71_3, fp_102_0, fp_125_0, fp_125_1, fp_125_2, fp_125_3, fp_125_4, fp_177_0, fp_177_1, fp_177_2, fp_177_3, ld_2, ld_3, ld_9, ld_22, ld_23, ld_25, ld_30, ld_63, ld_64, ld_65, ld_67, ld_69, ld_71, ld_100, ld_125, ld_141, ld_177, len_9, len_22, lenS_22, lenN_22, len_23, lenS_23, lenN_23, len_30, lenS_30, lenN_30, len_63, lenS_63, lenN_63, len_64, lenS_64, lenN_64, len_65, lenS_65, lenN_65, len_148, lenS_148, lenN_148, len_205, lenS_205, lenN_205, beql_4, pneq_141, pneq0_141, Bool.and_true]
    rw [rdAdd_txt 9 false r (sT s.k s.to s.n) (by omega), optK_some]
    refine Wq.call p88' hA2 fun H3 nx3 hA3 => ?_
    rw [rdAdd_txt 9 false r (sT s.k s.to s.n) (by omega)]
    simp only [oneCell_int, oneCell_str, oneCell_bool, oneCell_row, oneCell_ep, oneCell_nilp, cond_true, cond_false, optK_some, ldV_int, ldV_str, ldV_bool, ldV_row, ldV_ep, ldV_nilp, rdBin_add, rdBin_sub, rdBin_mul, rdBin_lss, rdBin_leq, rdBin_gtr, rdBin_geq, rdBin_eql, rdBin_neq, rdBin_seql, rdBin_sneq, unV_not, bvK_bool, bK_true, bK_false, Bool.not_true, Bool.not_false, Bool.not_not, rdNil_ep, rdNil_ptr, oneCell_sl, ldV_sl, vEq_self, List.length_nil, Int.cast_ofNat_Int, Int.reduceEq, Int.reduceLT, Int.reduceLE, decide_true, decide_false, eq_self, Bool.and_self, fa_25_0, fa_25_1, fa_25_2, fa_25_3, fa_25_4, fa_25_5, fa_67_0, fa_67_1, fa_67_2, fa_67_3, fa_69_0, fa_69_1, fa_69_2, fa_71_0, fa_71_1, fa_71_2, fa_71_3, fa_95_0, fa_95_1, fa_95_2, fa_102_0, fa_125_0, fa_125_1, fa_125_2, fa_125_3, fa_125_4, fa_145_0, fa_145_1, fa_177_0, fa_177_1, fp_25_0, fp_25_1, fp_25_2, fp_25_3, fp_25_4, fp_25_5, fp_67_0, fp_67_1, fp_67_2, fp_67_3, fp_69_0, fp_69_1, fp_69_2, fp_71_0, fp_71_1, fp_71_2, fp_71_3, fp_102_0, fp_125_0, fp_125_1, fp_125_2, fp_125_3, fp_125_4, fp_177_0, fp_177_1, fp_177_2, fp_177_3, ld_2, ld_3, ld_9, ld_22, ld_23, ld_25, ld_30, ld_63, ld_64, ld_65, ld_67, ld_69, ld_71, ld_100, ld_125, ld_141, ld_177, len_9, len_22, lenS_22, lenN_22, len_23, lenS_23, lenN_23, len_30, lenS_30, lenN_30, len_63, lenS_63, lenN_63, len_64, lenS_64, lenN_64, len_65, lenS_65, lenN_65, len_148, lenS_148, lenN_148, len_205, lenS_205, lenN_205, beql_4, pneq_141, pneq0_141, Bool.and_true]
    rw [rdAdd_txt 9 false _ _ (by simp; omega), optK_some, rdAdd_txt 9 true _ [32] (by simp; omega), optK_some]
    have := ih (r ++ sT s.k s.to s.n ++ tR s.args s.blocks ++ [32]) _ _ (by simp; omega) hA3
    rw [tSs, tS_eq]
    rw [b.v_eq, atomsV] at this
    simpa [List.append_assoc] using this
end
end Go.Proofs.YtfdgoenmdalphaaGreatDoor
