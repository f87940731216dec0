/- Which steps are right. -/
import Derived.Test.YtfdgoenmdalphaaGreatDoorS5
namespace Go.Proofs.YtfdgoenmdalphaaGreatDoor
open Go.Ev Go.RowKit
noncomputable section
set_option maxRecDepth 100000
set_option linter.unusedVariables false
set_option linter.unusedSimpArgs false
def at? (fs : List Fun) (n : Int) : Option Fun := if n < 0 then none else fs[n.toNat]?
/-- How many atoms and blocks a step must have. -/
def nd (fs : List Fun) (s : Step) : Int × Int :=
  if s.k = 1 ∨ s.k = 6 ∨ s.k = 8 then (1, 0)
  else if s.k = 2 then (if takesOf s.n = 0 then -1 else takesOf s.n, 0)
  else if s.k = 3 then (if (s.args.length : Int) = 0 then -1 else (s.args.length : Int), 0)
  else if s.k = 4 then (match at? fs s.n with | none => -1 | some f => f.free, 0)
  else if s.k = 5 ∨ s.k = 7 then (2, 0)
  else if s.k = 9 then (1, 2)
  else if s.k = 10 then (0, 2)
  else (-1, 0)
theorem pu_99 (fs : List Fun) (s : Step) (hs : takesOf s.n = takesOf s.n) : Pu 99 [funsV fs, s.v] (.tuple ⟨[i64 (nd fs s).1, i64 (nd fs s).2]⟩) := by
  rw [s.v_eq]
  refine Pure.of rfl fun H nx => ?_
  rw [q99]
  refine Wq.natF' (.refl _ _) fun hA => ?_
  have L44 : ∀ (ok : Bool), (ok = true ↔ (s.k = 5 ∨ s.k = 7)) → ¬ (s.k = 1 ∨ s.k = 6 ∨ s.k = 8) → s.k ≠ 2 → s.k ≠ 3 → s.k ≠ 4 → Wq P pl X (.jump (l99_44 (i64 s.k) ok H (nx + 1))) nx H (.tuple ⟨[i64 (nd fs s).1, i64 (nd fs s).2]⟩) := by
    intro ok hok h1 h2 h3 h4
    refine Wq.jmp (q99_44 ..) (fun _ => rfl) ?_
    simp only [oneCell_int, oneCell_str, oneCell_bool, oneCell_row, oneCell_ep, oneCell_nilp, cond_true, cond_false, optK_some, ldV_int, ldV_str, ldV_bool, ldV_row, ldV_ep, ldV_nilp, rdBin_add, rdBin_sub, rdBin_mul, rdBin_lss, rdBin_leq, rdBin_gtr, rdBin_geq, rdBin_eql, rdBin_neq, rdBin_seql, rdBin_sneq, unV_not, bvK_bool, bK_true, bK_false, Bool.not_true, Bool.not_false, Bool.not_not, rdNil_ep, rdNil_ptr, oneCell_sl, ldV_sl, vEq_self, List.length_nil, Int.cast_ofNat_Int, Int.reduceEq, Int.reduceLT, Int.reduceLE, decide_true, decide_false, eq_self, Bool.and_self, fa_25_0, fa_25_1, fa_25_2, fa_25_3, fa_25_4, fa_25_5, fa_67_0, fa_67_1, fa_67_2, fa_67_3, fa_69_0, fa_69_1, fa_69_2, fa_71_0, fa_71_1, fa_71_2, fa_71_3, fa_95_0, fa_95_1, fa_95_2, fa_102_0, fa_125_0, fa_125_1, fa_125_2, fa_125_3, fa_125_4, fa_145_0, fa_145_1, fa_177_0, fa_177_1, fp_25_0, fp_25_1, fp_25_2, fp_25_3, fp_25_4, fp_25_5, fp_67_0, fp_67_1, fp_67_2, fp_67_3, fp_69_0, fp_69_1, fp_69_2, fp_71_0, fp_71_1, fp_71_2, fp_71_3, fp_102_0, fp_125_0, fp_125_1, fp_125_2, fp_125_3, fp_125_4, fp_177_0, fp_177_1, fp_177_2, fp_177_3, ld_2, ld_3, ld_9, ld_22, ld_23, ld_25, ld_30, ld_63, ld_64, ld_65, ld_67, ld_69, ld_71, ld_100, ld_125, ld_141, ld_177, len_9, len_22, lenS_22, lenN_22, len_23, lenS_23, lenN_23, len_30, lenS_30, lenN_30, len_63, lenS_63, lenN_63, len_64, lenS_64, lenN_64, len_65, lenS_65, lenN_65, len_148, lenS_148, lenN_148, len_205, lenS_205, lenN_205, beql_4, pneq_141, pneq0_141]
    refine Wq.bK (fun h => ?_) (fun h => ?_)
    · exact Wq.retE (by have := hok.1 h; simp [nd, h1, h2, h3, h4, this]) hA
    have h5 : ¬ (s.k = 5 ∨ s.k = 7) := fun q => by have := hok.2 q; rw [this] at h; cases h
    refine Wq.ite (fun h9 => ?_) (fun h9 => ?_)
    · exact Wq.retE (by simp [nd, h1, h2, h3, h4, h5, h9]) hA
    refine Wq.ite (fun h10 => ?_) (fun h10 => ?_)
    · exact Wq.retE (by simp [nd, h1, h2, h3, h4, h5, h9, h10]) hA
    · exact Wq.retE (by simp [nd, h1, h2, h3, h4, h5, h9, h10]) hA
  have L36 : ∀ (ok : Bool), (ok = true ↔ (s.n < 0 ∨ fs.length ≤ s.n)) → s.k = 4 → Wq P pl X (.jump (l99_36 (funsV fs) (eptrV s.cells) ok H (nx + 1))) nx H (.tuple ⟨[i64 (nd fs s).1, i64 (nd fs s).2]⟩) := by
    intro ok hok h4
    refine Wq.jmp (q99_36 ..) (fun _ => rfl) ?_
    cases ok with
    | true =>
      simp only [oneCell_int, oneCell_str, oneCell_bool, oneCell_row, oneCell_ep, oneCell_nilp, cond_true, cond_false, optK_some, ldV_int, ldV_str, ldV_bool, ldV_row, ldV_ep, ldV_nilp, rdBin_add, rdBin_sub, rdBin_mul, rdBin_lss, rdBin_leq, rdBin_gtr, rdBin_geq, rdBin_eql, rdBin_neq, rdBin_seql, rdBin_sneq, unV_not, bvK_bool, bK_true, bK_false, Bool.not_true, Bool.not_false, Bool.not_not, rdNil_ep, rdNil_ptr, oneCell_sl, ldV_sl, vEq_self, List.length_nil, Int.cast_ofNat_Int, Int.reduceEq, Int.reduceLT, Int.reduceLE, decide_true, decide_false, eq_self, Bool.and_self, fa_25_0, fa_25_1, fa_25_2, fa_25_3, fa_25_4, fa_25_5, fa_67_0, fa_67_1, fa_67_2, fa_67_3, fa_69_0, fa_69_1, fa_69_2, fa_71_0, fa_71_1, fa_71_2, fa_71_3, fa_95_0, fa_95_1, fa_95_2, fa_102_0, fa_125_0, fa_125_1, fa_125_2, fa_125_3, fa_125_4, fa_145_0, fa_145_1, fa_177_0, fa_177_1, fp_25_0, fp_25_1, fp_25_2, fp_25_3, fp_25_4, fp_25_5, fp_67_0, fp_67_1, fp_67_2, fp_67_3, fp_69_0, fp_69_1, fp_69_2, fp_71_0, fp_71_1, fp_71_2, fp_71_3, fp_102_0, fp_125_0, fp_125_1, fp_125_2, fp_125_3, fp_125_4, fp_177_0, fp_177_1, fp_177_2, fp_177_3, ld_2, ld_3, ld_9, ld_22, ld_23, ld_25, ld_30, ld_63, ld_64, ld_65, ld_67, ld_69, ld_71, ld_100, ld_125, ld_141, ld_177, len_9, len_22, lenS_22, lenN_22, len_23, lenS_23, lenN_23, len_30, lenS_30, lenN_30, len_63, lenS_63, lenN_63, len_64, lenS_64, lenN_64, len_65, lenS_65, lenN_65, len_148, lenS_148, lenN_148, len_205, lenS_205, lenN_205, beql_4, pneq_141, pneq0_141]
      have hh := hok.1 rfl
      refine Wq.retE ?_ hA
      have e1 : at? fs s.n = none := by
        unfold at?
        by_cases hn : s.n < 0
        · simp [hn]
        · have : fs.length ≤ s.n.toNat := by omega
          simp [hn, List.getElem?_eq_none this]
      simp [nd, h4, e1]
    | false =>
      have hh : ¬ (s.n < 0 ∨ fs.length ≤ s.n) := fun q => by have := hok.2 q; cases this
      obtain ⟨k, hk⟩ : ∃ k : Nat, s.n = k := ⟨s.n.toNat, by omega⟩
      have hlt : k < fs.length := by omega
      have hg : (fs.map Fun.v)[k]? = some (.agg ⟨[i64 fs[k].free, i64 fs[k].locs, rowV 5 (fs[k].body.steps.map Step.v), i64 fs[k].body.e, atomsV fs[k].body.args, rowV 4 (fs[k].body.blocks.map Block.v)]⟩) := by simp [hlt, Fun.v]
      simp only [oneCell_int, oneCell_str, oneCell_bool, oneCell_row, oneCell_ep, oneCell_nilp, cond_true, cond_false, optK_some, ldV_int, ldV_str, ldV_bool, ldV_row, ldV_ep, ldV_nilp, rdBin_add, rdBin_sub, rdBin_mul, rdBin_lss, rdBin_leq, rdBin_gtr, rdBin_geq, rdBin_eql, rdBin_neq, rdBin_seql, rdBin_sneq, unV_not, bvK_bool, bK_true, bK_false, Bool.not_true, Bool.not_false, Bool.not_not, rdNil_ep, rdNil_ptr, oneCell_sl, ldV_sl, vEq_self, List.length_nil, Int.cast_ofNat_Int, Int.reduceEq, Int.reduceLT, Int.reduceLE, decide_true, decide_false, eq_self, Bool.and_self, fa_25_0, fa_25_1, fa_25_2, fa_25_3, fa_25_4, fa_25_5, fa_67_0, fa_67_1, fa_67_2, fa_67_3, fa_69_0, fa_69_1, fa_69_2, fa_71_0, fa_71_1, fa_71_2, fa_71_3, fa_95_0, fa_95_1, fa_95_2, fa_102_0, fa_125_0, fa_125_1, fa_125_2, fa_125_3, fa_125_4, fa_145_0, fa_145_1, fa_177_0, fa_177_1, fp_25_0, fp_25_1, fp_25_2, fp_25_3, fp_25_4, fp_25_5, fp_67_0, fp_67_1, fp_67_2, fp_67_3, fp_69_0, fp_69_1, fp_69_2, fp_71_0, fp_71_1, fp_71_2, fp_71_3, fp_102_0, fp_125_0, fp_125_1, fp_125_2, fp_125_3, fp_125_4, fp_177_0, fp_177_1, fp_177_2, fp_177_3, ld_2, ld_3, ld_9, ld_22, ld_23, ld_25, ld_30, ld_63, ld_64, ld_65, ld_67, ld_69, ld_71, ld_100, ld_125, ld_141, ld_177, len_9, len_22, lenS_22, lenN_22, len_23, lenS_23, lenN_23, len_30, lenS_30, lenN_30, len_63, lenS_63, lenN_63, len_64, lenS_64, lenN_64, len_65, lenS_65, lenN_65, len_148, lenS_148, lenN_148, len_205, lenS_205, lenN_205, beql_4, pneq_141, pneq0_141, hk, funsV, ix_30 hg]
      refine Wq.retE ?_ hA
      have e1 : at? fs k = some fs[k] := by unfold at?; rw [if_neg (by omega)]; simp [hlt]
      simp [nd, h4, hk, e1]
  have L12 : ∀ (ok : Bool), (ok = true ↔ (s.k = 1 ∨ s.k = 6 ∨ s.k = 8)) → Wq P pl X (.jump (l99_12 (funsV fs) (eptrV s.cells) (i64 s.k) ok H (nx + 1))) nx H (.tuple ⟨[i64 (nd fs s).1, i64 (nd fs s).2]⟩) := by
    intro ok hok
    refine Wq.jmp (q99_12 ..) (fun _ => rfl) ?_
    simp only [oneCell_int, oneCell_str, oneCell_bool, oneCell_row, oneCell_ep, oneCell_nilp, cond_true, cond_false, optK_some, ldV_int, ldV_str, ldV_bool, ldV_row, ldV_ep, ldV_nilp, rdBin_add, rdBin_sub, rdBin_mul, rdBin_lss, rdBin_leq, rdBin_gtr, rdBin_geq, rdBin_eql, rdBin_neq, rdBin_seql, rdBin_sneq, unV_not, bvK_bool, bK_true, bK_false, Bool.not_true, Bool.not_false, Bool.not_not, rdNil_ep, rdNil_ptr, oneCell_sl, ldV_sl, vEq_self, List.length_nil, Int.cast_ofNat_Int, Int.reduceEq, Int.reduceLT, Int.reduceLE, decide_true, decide_false, eq_self, Bool.and_self, fa_25_0, fa_25_1, fa_25_2, fa_25_3, fa_25_4, fa_25_5, fa_67_0, fa_67_1, fa_67_2, fa_67_3, fa_69_0, fa_69_1, fa_69_2, fa_71_0, fa_71_1, fa_71_2, fa_71_3, fa_95_0, fa_95_1, fa_95_2, fa_102_0, fa_125_0, fa_125_1, fa_125_2, fa_125_3, fa_125_4, fa_145_0, fa_145_1, fa_177_0, fa_177_1, fp_25_0, fp_25_1, fp_25_2, fp_25_3, fp_25_4, fp_25_5, fp_67_0, fp_67_1, fp_67_2, fp_67_3, fp_69_0, fp_69_1, fp_69_2, fp_71_0, fp_71_1, fp_71_2, fp_71_3, fp_102_0, fp_125_0, fp_125_1, fp_125_2, fp_125_3, fp_125_4, fp_177_0, fp_177_1, fp_177_2, fp_177_3, ld_2, ld_3, ld_9, ld_22, ld_23, ld_25, ld_30, ld_63, ld_64, ld_65, ld_67, ld_69, ld_71, ld_100, ld_125, ld_141, ld_177, len_9, len_22, lenS_22, lenN_22, len_23, lenS_23, lenN_23, len_30, lenS_30, lenN_30, len_63, lenS_63, lenN_63, len_64, lenS_64, lenN_64, len_65, lenS_65, lenN_65, len_148, lenS_148, lenN_148, len_205, lenS_205, lenN_205, beql_4, pneq_141, pneq0_141, atomsV, funsV, List.length_map]
    refine Wq.bK (fun h => ?_) (fun h => ?_)
    · exact Wq.retE (by have := hok.1 h; simp [nd, this]) hA
    have h1 : ¬ (s.k = 1 ∨ s.k = 6 ∨ s.k = 8) := fun q => by have := hok.2 q; rw [this] at h; cases h
    refine Wq.ite (fun h2 => ?_) (fun h2 => ?_)
    · refine Wq.call (pu_90 s.n) hA fun H1 nx1 hA1 => ?_
      simp only [oneCell_int, oneCell_str, oneCell_bool, oneCell_row, oneCell_ep, oneCell_nilp, cond_true, cond_false, optK_some, ldV_int, ldV_str, ldV_bool, ldV_row, ldV_ep, ldV_nilp, rdBin_add, rdBin_sub, rdBin_mul, rdBin_lss, rdBin_leq, rdBin_gtr, rdBin_geq, rdBin_eql, rdBin_neq, rdBin_seql, rdBin_sneq, unV_not, bvK_bool, bK_true, bK_false, Bool.not_true, Bool.not_false, Bool.not_not, rdNil_ep, rdNil_ptr, oneCell_sl, ldV_sl, vEq_self, List.length_nil, Int.cast_ofNat_Int, Int.reduceEq, Int.reduceLT, Int.reduceLE, decide_true, decide_false, eq_self, Bool.and_self, fa_25_0, fa_25_1, fa_25_2, fa_25_3, fa_25_4, fa_25_5, fa_67_0, fa_67_1, fa_67_2, fa_67_3, fa_69_0, fa_69_1, fa_69_2, fa_71_0, fa_71_1, fa_71_2, fa_71_3, fa_95_0, fa_95_1, fa_95_2, fa_102_0, fa_125_0, fa_125_1, fa_125_2, fa_125_3, fa_125_4, fa_145_0, fa_145_1, fa_177_0, fa_177_1, fp_25_0, fp_25_1, fp_25_2, fp_25_3, fp_25_4, fp_25_5, fp_67_0, fp_67_1, fp_67_2, fp_67_3, fp_69_0, fp_69_1, fp_69_2, fp_71_0, fp_71_1, fp_71_2, fp_71_3, fp_102_0, fp_125_0, fp_125_1, fp_125_2, fp_125_3, fp_125_4, fp_177_0, fp_177_1, fp_177_2, fp_177_3, ld_2, ld_3, ld_9, ld_22, ld_23, ld_25, ld_30, ld_63, ld_64, ld_65, ld_67, ld_69, ld_71, ld_100, ld_125, ld_141, ld_177, len_9, len_22, lenS_22, lenN_22, len_23, lenS_23, lenN_23, len_30, lenS_30, lenN_30, len_63, lenS_63, lenN_63, len_64, lenS_64, lenN_64, len_65, lenS_65, lenN_65, len_148, lenS_148, lenN_148, len_205, lenS_205, lenN_205, beql_4, pneq_141, pneq0_141]
      refine Wq.ite (fun h => ?_) (fun h => ?_)
      · exact Wq.retE (by simp [nd, h2, h]) hA1
      · exact Wq.retE (by simp [nd, h2, h]) hA1
    refine Wq.ite (fun h3 => ?_) (fun h3 => ?_)
    · refine Wq.ite (fun h => ?_) (fun h => ?_)
      · exact Wq.retE (by simp at h; simp [nd, h3, h]) hA
      · exact Wq.retE (by simp at h; simp [nd, h3, h]) hA
    refine Wq.ite (fun h4 => ?_) (fun h4 => ?_)
    · refine Wq.ite (fun h => ?_) (fun h => ?_)
      · exact L36 _ (by simp [h]) h4
      · exact L36 _ (by simp; omega) h4
    refine Wq.ite (fun h5 => ?_) (fun h5 => ?_)
    · exact L44 _ (by simp [h5]) h1 h2 h3 h4
    · exact L44 _ (by simp [h5]) h1 h2 h3 h4
  simp only [oneCell_int, oneCell_str, oneCell_bool, oneCell_row, oneCell_ep, oneCell_nilp, cond_true, cond_false, optK_some, ldV_int, ldV_str, ldV_bool, ldV_row, ldV_ep, ldV_nilp, rdBin_add, rdBin_sub, rdBin_mul, rdBin_lss, rdBin_leq, rdBin_gtr, rdBin_geq, rdBin_eql, rdBin_neq, rdBin_seql, rdBin_sneq, unV_not, bvK_bool, bK_true, bK_false, Bool.not_true, Bool.not_false, Bool.not_not, rdNil_ep, rdNil_ptr, oneCell_sl, ldV_sl, vEq_self, List.length_nil, Int.cast_ofNat_Int, Int.reduceEq, Int.reduceLT, Int.reduceLE, decide_true, decide_false, eq_self, Bool.and_self, fa_25_0, fa_25_1, fa_25_2, fa_25_3, fa_25_4, fa_25_5, fa_67_0, fa_67_1, fa_67_2, fa_67_3, fa_69_0, fa_69_1, fa_69_2, fa_71_0, fa_71_1, fa_71_2, fa_71_3, fa_95_0, fa_95_1, fa_95_2, fa_102_0, fa_125_0, fa_125_1, fa_125_2, fa_125_3, fa_125_4, fa_145_0, fa_145_1, fa_177_0, fa_177_1, fp_25_0, fp_25_1, fp_25_2, fp_25_3, fp_25_4, fp_25_5, fp_67_0, fp_67_1, fp_67_2, fp_67_3, fp_69_0, fp_69_1, fp_69_2, fp_71_0, fp_71_1, fp_71_2, fp_71_3, fp_102_0, fp_125_0, fp_125_1, fp_125_2, fp_125_3, fp_125_4, fp_177_0, fp_177_1, fp_177_2, fp_177_3, ld_2, ld_3, ld_9, ld_22, ld_23, ld_25, ld_30, ld_63, ld_64, ld_65, ld_67, ld_69, ld_71, ld_100, ld_125, ld_141, ld_177, len_9, len_22, lenS_22, lenN_22, len_23, lenS_23, lenN_23, len_30, lenS_30, lenN_30, len_63, lenS_63, lenN_63, len_64, lenS_64, lenN_64, len_65, lenS_65, lenN_65, len_148, lenS_148, lenN_148, len_205, lenS_205, lenN_205, beql_4, pneq_141, pneq0_141]
  refine Wq.ite (fun h => ?_) (fun h => ?_)
  · exact L12 _ (by simp [h])
  refine Wq.ite (fun h => ?_) (fun h => ?_)
  · exact L12 _ (by simp [h])
  · exact L12 _ (by simp; omega)
theorem pu_63 (fs : List Fun) (k : Nat) (l : List Atom) (gv : Value) (g : List Int) (f : Fun) (hgv : IsI gv g) (hf : fs[k]? = some f) (hg : g.length < 9223372036854775807) (hl : aSm l) :
    Pu 63 [funsV fs, i64 k, atomsV l, gv] (.bool (l.all (aOk f.free f.locs (decide (k = 0)) g))) := Pure.of rfl fun H nx => by
  have hbig : big = 1125899906842624 := rfl
  rw [q63]
  refine Wq.each l (fun i (_ : Unit) H nx => .jump (l63_7 (funsV fs) (i64 k) (atomsV l) gv (i64 i) H nx)) (fun l _ => .bool (l.all (aOk f.free f.locs (decide (k = 0)) g))) (fun _ H1 nx1 hA => ?_) (fun i a t _ H1 nx1 hgi hi ht hA ih => ?_) () H nx (.refl _ _)
  · refine Wq.jmp (q63_7 ..) (fun _ => rfl) ?_
    simp only [oneCell_int, oneCell_str, oneCell_bool, oneCell_row, oneCell_ep, oneCell_nilp, cond_true, cond_false, optK_some, ldV_int, ldV_str, ldV_bool, ldV_row, ldV_ep, ldV_nilp, rdBin_add, rdBin_sub, rdBin_mul, rdBin_lss, rdBin_leq, rdBin_gtr, rdBin_geq, rdBin_eql, rdBin_neq, rdBin_seql, rdBin_sneq, unV_not, bvK_bool, bK_true, bK_false, Bool.not_true, Bool.not_false, Bool.not_not, rdNil_ep, rdNil_ptr, oneCell_sl, ldV_sl, vEq_self, List.length_nil, Int.cast_ofNat_Int, Int.reduceEq, Int.reduceLT, Int.reduceLE, decide_true, decide_false, eq_self, Bool.and_self, fa_25_0, fa_25_1, fa_25_2, fa_25_3, fa_25_4, fa_25_5, fa_67_0, fa_67_1, fa_67_2, fa_67_3, fa_69_0, fa_69_1, fa_69_2, fa_71_0, fa_71_1, fa_71_2, fa_71_3, fa_95_0, fa_95_1, fa_95_2, fa_102_0, fa_125_0, fa_125_1, fa_125_2, fa_125_3, fa_125_4, fa_145_0, fa_145_1, fa_177_0, fa_177_1, fp_25_0, fp_25_1, fp_25_2, fp_25_3, fp_25_4, fp_25_5, fp_67_0, fp_67_1, fp_67_2, fp_67_3, fp_69_0, fp_69_1, fp_69_2, fp_71_0, fp_71_1, fp_71_2, fp_71_3, fp_102_0, fp_125_0, fp_125_1, fp_125_2, fp_125_3, fp_125_4, fp_177_0, fp_177_1, fp_177_2, fp_177_3, ld_2, ld_3, ld_9, ld_22, ld_23, ld_25, ld_30, ld_63, ld_64, ld_65, ld_67, ld_69, ld_71, ld_100, ld_125, ld_141, ld_177, len_9, len_22, lenS_22, lenN_22, len_23, lenS_23, lenN_23, len_30, lenS_30, lenN_30, len_63, lenS_63, lenN_63, len_64, lenS_64, lenN_64, len_65, lenS_65, lenN_65, len_148, lenS_148, lenN_148, len_205, lenS_205, lenN_205, beql_4, pneq_141, pneq0_141, atomsV, List.length_map, not_lt_len]
    exact Wq.ret hA
  · refine Wq.jmp (q63_7 ..) (fun _ => rfl) ?_
    have hg' : (l.map Atom.v)[i]? = some (.agg ⟨[i64 a.k, i64 a.n, i64 a.m, .string a.t]⟩) := by simp [hgi]
    have := hl.1
    simp only [oneCell_int, oneCell_str, oneCell_bool, oneCell_row, oneCell_ep, oneCell_nilp, cond_true, cond_false, optK_some, ldV_int, ldV_str, ldV_bool, ldV_row, ldV_ep, ldV_nilp, rdBin_add, rdBin_sub, rdBin_mul, rdBin_lss, rdBin_leq, rdBin_gtr, rdBin_geq, rdBin_eql, rdBin_neq, rdBin_seql, rdBin_sneq, unV_not, bvK_bool, bK_true, bK_false, Bool.not_true, Bool.not_false, Bool.not_not, rdNil_ep, rdNil_ptr, oneCell_sl, ldV_sl, vEq_self, List.length_nil, Int.cast_ofNat_Int, Int.reduceEq, Int.reduceLT, Int.reduceLE, decide_true, decide_false, eq_self, Bool.and_self, fa_25_0, fa_25_1, fa_25_2, fa_25_3, fa_25_4, fa_25_5, fa_67_0, fa_67_1, fa_67_2, fa_67_3, fa_69_0, fa_69_1, fa_69_2, fa_71_0, fa_71_1, fa_71_2, fa_71_3, fa_95_0, fa_95_1, fa_95_2, fa_102_0, fa_125_0, fa_125_1, fa_125_2, fa_125_3, fa_125_4, fa_145_0, fa_145_1, fa_177_0, fa_177_1, fp_25_0, fp_25_1, fp_25_2, fp_25_3, fp_25_4, fp_25_5, fp_67_0, fp_67_1, fp_67_2, fp_67_3, fp_69_0, fp_69_1, fp_69_2, fp_71_0, fp_71_1, fp_71_2, fp_71_3, fp_102_0, fp_125_0, fp_125_1, fp_125_2, fp_125_3, fp_125_4, fp_177_0, fp_177_1, fp_177_2, fp_177_3, ld_2, ld_3, ld_9, ld_22, ld_23, ld_25, ld_30, ld_63, ld_64, ld_65, ld_67, ld_69, ld_71, ld_100, ld_125, ld_141, ld_177, len_9, len_22, lenS_22, lenN_22, len_23, lenS_23, lenN_23, len_30, lenS_30, lenN_30, len_63, lenS_63, lenN_63, len_64, lenS_64, lenN_64, len_65, lenS_65, lenN_65, len_148, lenS_148, lenN_148, len_205, lenS_205, lenN_205, beql_4, pneq_141, pneq0_141, atomsV, List.length_map, is_lt_len hi, ix_64 hg', wrap_succ (show i < 9223372036854775807 by omega)]
    refine Wq.call (pu_100 fs k a gv g f hgv hf hg) hA fun H2 nx2 hA2 => ?_
    simp only [oneCell_int, oneCell_str, oneCell_bool, oneCell_row, oneCell_ep, oneCell_nilp, cond_true, cond_false, optK_some, ldV_int, ldV_str, ldV_bool, ldV_row, ldV_ep, ldV_nilp, rdBin_add, rdBin_sub, rdBin_mul, rdBin_lss, rdBin_leq, rdBin_gtr, rdBin_geq, rdBin_eql, rdBin_neq, rdBin_seql, rdBin_sneq, unV_not, bvK_bool, bK_true, bK_false, Bool.not_true, Bool.not_false, Bool.not_not, rdNil_ep, rdNil_ptr, oneCell_sl, ldV_sl, vEq_self, List.length_nil, Int.cast_ofNat_Int, Int.reduceEq, Int.reduceLT, Int.reduceLE, decide_true, decide_false, eq_self, Bool.and_self, fa_25_0, fa_25_1, fa_25_2, fa_25_3, fa_25_4, fa_25_5, fa_67_0, fa_67_1, fa_67_2, fa_67_3, fa_69_0, fa_69_1, fa_69_2, fa_71_0, fa_71_1, fa_71_2, fa_71_3, fa_95_0, fa_95_1, fa_95_2, fa_102_0, fa_125_0, fa_125_1, fa_125_2, fa_125_3, fa_125_4, fa_145_0, fa_145_1, fa_177_0, fa_177_1, fp_25_0, fp_25_1, fp_25_2, fp_25_3, fp_25_4, fp_25_5, fp_67_0, fp_67_1, fp_67_2, fp_67_3, fp_69_0, fp_69_1, fp_69_2, fp_71_0, fp_71_1, fp_71_2, fp_71_3, fp_102_0, fp_125_0, fp_125_1, fp_125_2, fp_125_3, fp_125_4, fp_177_0, fp_177_1, fp_177_2, fp_177_3, ld_2, ld_3, ld_9, ld_22, ld_23, ld_25, ld_30, ld_63, ld_64, ld_65, ld_67, ld_69, ld_71, ld_100, ld_125, ld_141, ld_177, len_9, len_22, lenS_22, lenN_22, len_23, lenS_23, lenN_23, len_30, lenS_30, lenN_30, len_63, lenS_63, lenN_63, len_64, lenS_64, lenN_64, len_65, lenS_65, lenN_65, len_148, lenS_148, lenN_148, len_205, lenS_205, lenN_205, beql_4, pneq_141, pneq0_141]
    rw [List.all_cons]
    cases aOk f.free f.locs (decide (k = 0)) g a
    · exact Wq.ret hA2
    · simp only [oneCell_int, oneCell_str, oneCell_bool, oneCell_row, oneCell_ep, oneCell_nilp, cond_true, cond_false, optK_some, ldV_int, ldV_str, ldV_bool, ldV_row, ldV_ep, ldV_nilp, rdBin_add, rdBin_sub, rdBin_mul, rdBin_lss, rdBin_leq, rdBin_gtr, rdBin_geq, rdBin_eql, rdBin_neq, rdBin_seql, rdBin_sneq, unV_not, bvK_bool, bK_true, bK_false, Bool.not_true, Bool.not_false, Bool.not_not, rdNil_ep, rdNil_ptr, oneCell_sl, ldV_sl, vEq_self, List.length_nil, Int.cast_ofNat_Int, Int.reduceEq, Int.reduceLT, Int.reduceLE, decide_true, decide_false, eq_self, Bool.and_self, fa_25_0, fa_25_1, fa_25_2, fa_25_3, fa_25_4, fa_25_5, fa_67_0, fa_67_1, fa_67_2, fa_67_3, fa_69_0, fa_69_1, fa_69_2, fa_71_0, fa_71_1, fa_71_2, fa_71_3, fa_95_0, fa_95_1, fa_95_2, fa_102_0, fa_125_0, fa_125_1, fa_125_2, fa_125_3, fa_125_4, fa_145_0, fa_145_1, fa_177_0, fa_177_1, fp_25_0, fp_25_1, fp_25_2, fp_25_3, fp_25_4, fp_25_5, fp_67_0, fp_67_1, fp_67_2, fp_67_3, fp_69_0, fp_69_1, fp_69_2, fp_71_0, fp_71_1, fp_71_2, fp_71_3, fp_102_0, fp_125_0, fp_125_1, fp_125_2, fp_125_3, fp_125_4, fp_177_0, fp_177_1, fp_177_2, fp_177_3, ld_2, ld_3, ld_9, ld_22, ld_23, ld_25, ld_30, ld_63, ld_64, ld_65, ld_67, ld_69, ld_71, ld_100, ld_125, ld_141, ld_177, len_9, len_22, lenS_22, lenN_22, len_23, lenS_23, lenN_23, len_30, lenS_30, lenN_30, len_63, lenS_63, lenN_63, len_64, lenS_64, lenN_64, len_65, lenS_65, lenN_65, len_148, lenS_148, lenN_148, len_205, lenS_205, lenN_205, beql_4, pneq_141, pneq0_141]
      exact ih () _ _ hA2
/-- Which steps are right, their blocks aside. -/
def stOk (fs : List Fun) (free locs : Int) (first : Bool) (g : List Int) (s : Step) : Bool :=
  if (nd fs s).1 < 0 ∨ (nd fs s).1 ≠ s.args.length ∨ (nd fs s).2 ≠ s.blocks.length then false
  else if s.args.all (aOk free locs first g) = false then false
  else if s.k = 5 ∨ s.k = 8 then decide (s.to = 0 ∧ 0 ≤ s.n ∧ (s.k = 5 ∨ s.n < 1024))
  else if s.to < 0 ∨ locs ≤ s.to then false
  else if s.k = 1 ∨ s.k = 3 ∨ s.k = 7 ∨ s.k = 9 then decide (s.n = 0)
  else if s.k = 6 then decide (0 ≤ s.n ∧ s.n < 16384)
  else if s.k = 10 then decide (0 ≤ s.n ∧ s.n < locs)
  else true
theorem pu_61 (fs : List Fun) (k : Nat) (s : Step) (gv : Value) (g : List Int) (f : Fun) (hgv : IsI gv g) (hf : fs[k]? = some f) (hg : g.length < 9223372036854775807) (hs : stSm s) :
    Pu 61 [funsV fs, i64 k, s.v, gv] (.bool (stOk fs f.free f.locs (decide (k = 0)) g s)) := by
  rw [stSm_iff] at hs
  have hfv : (fs.map Fun.v)[k]? = some (.agg ⟨[i64 f.free, i64 f.locs, rowV 5 (f.body.steps.map Step.v), i64 f.body.e, atomsV f.body.args, rowV 4 (f.body.blocks.map Block.v)]⟩) := by simp [hf, Fun.v]
  have hp99 := pu_99 fs s rfl
  rw [s.v_eq] at hp99 ⊢
  generalize hR : stOk fs f.free f.locs (decide (k = 0)) g s = R
  refine Pure.of rfl fun H nx => ?_
  rw [q61]
  refine Wq.natF' (.refl _ _) fun hA => ?_
  have L28 : ∀ (ok : Bool) H1 nx1, Ag nx H nx1 H1 → (ok = true ↔ (s.k = 1 ∨ s.k = 3 ∨ s.k = 7 ∨ s.k = 9)) → R = (if s.k = 1 ∨ s.k = 3 ∨ s.k = 7 ∨ s.k = 9 then decide (s.n = 0) else if s.k = 6 then decide (0 ≤ s.n ∧ s.n < 16384) else if s.k = 10 then decide (0 ≤ s.n ∧ s.n < f.locs) else true) →
      Wq P pl X (.jump (l61_28 (funsV fs) (i64 k) (eptrV s.cells) (i64 s.k) ok H1 nx1)) nx H (.bool R) := by
    intro ok H1 nx1 hA1 hok hR'
    refine Wq.jmp (q61_28 ..) (fun _ => rfl) ?_
    simp only [oneCell_int, oneCell_str, oneCell_bool, oneCell_row, oneCell_ep, oneCell_nilp, cond_true, cond_false, optK_some, ldV_int, ldV_str, ldV_bool, ldV_row, ldV_ep, ldV_nilp, rdBin_add, rdBin_sub, rdBin_mul, rdBin_lss, rdBin_leq, rdBin_gtr, rdBin_geq, rdBin_eql, rdBin_neq, rdBin_seql, rdBin_sneq, unV_not, bvK_bool, bK_true, bK_false, Bool.not_true, Bool.not_false, Bool.not_not, rdNil_ep, rdNil_ptr, oneCell_sl, ldV_sl, vEq_self, List.length_nil, Int.cast_ofNat_Int, Int.reduceEq, Int.reduceLT, Int.reduceLE, decide_true, decide_false, eq_self, Bool.and_self, fa_25_0, fa_25_1, fa_25_2, fa_25_3, fa_25_4, fa_25_5, fa_67_0, fa_67_1, fa_67_2, fa_67_3, fa_69_0, fa_69_1, fa_69_2, fa_71_0, fa_71_1, fa_71_2, fa_71_3, fa_95_0, fa_95_1, fa_95_2, fa_102_0, fa_125_0, fa_125_1, fa_125_2, fa_125_3, fa_125_4, fa_145_0, fa_145_1, fa_177_0, fa_177_1, fp_25_0, fp_25_1, fp_25_2, fp_25_3, fp_25_4, fp_25_5, fp_67_0, fp_67_1, fp_67_2, fp_67_3, fp_69_0, fp_69_1, fp_69_2, fp_71_0, fp_71_1, fp_71_2, fp_71_3, fp_102_0, fp_125_0, fp_125_1, fp_125_2, fp_125_3, fp_125_4, fp_177_0, fp_177_1, fp_177_2, fp_177_3, ld_2, ld_3, ld_9, ld_22, ld_23, ld_25, ld_30, ld_63, ld_64, ld_65, ld_67, ld_69, ld_71, ld_100, ld_125, ld_141, ld_177, len_9, len_22, lenS_22, lenN_22, len_23, lenS_23, lenN_23, len_30, lenS_30, lenN_30, len_63, lenS_63, lenN_63, len_64, lenS_64, lenN_64, len_65, lenS_65, lenN_65, len_148, lenS_148, lenN_148, len_205, lenS_205, lenN_205, beql_4, pneq_141, pneq0_141, funsV, ix_30 hfv]
    refine Wq.bK (fun h => ?_) (fun h => ?_)
    · rw [hR', if_pos (hok.1 h)]; exact Wq.ret hA1
    rw [if_neg (fun q => by have := hok.2 q; rw [this] at h; cases h)] at hR'
    refine Wq.ite (fun h6 => ?_) (fun h6 => ?_)
    · rw [if_pos h6] at hR'
      refine Wq.ite (fun h => ?_) (fun h => ?_) <;> exact Wq.retE (by rw [hR']; grind) hA1
    rw [if_neg h6] at hR'
    refine Wq.ite (fun h10 => ?_) (fun h10 => ?_)
    · rw [if_pos h10] at hR'
      refine Wq.ite (fun h => ?_) (fun h => ?_) <;> exact Wq.retE (by rw [hR']; grind) hA1
    · rw [if_neg h10] at hR'; exact Wq.retE (by rw [hR']) hA1
  have L16 : ∀ (bad : Bool) H1 nx1, Ag nx H nx1 H1 → (bad = true ↔ (s.to < 0 ∨ f.locs ≤ s.to)) → R = (if s.to < 0 ∨ f.locs ≤ s.to then false else if s.k = 1 ∨ s.k = 3 ∨ s.k = 7 ∨ s.k = 9 then decide (s.n = 0) else if s.k = 6 then decide (0 ≤ s.n ∧ s.n < 16384) else if s.k = 10 then decide (0 ≤ s.n ∧ s.n < f.locs) else true) →
      Wq P pl X (.jump (l61_16 (funsV fs) (i64 k) (eptrV s.cells) bad H1 nx1)) nx H (.bool R) := by
    intro bad H1 nx1 hA1 hok hR'
    refine Wq.jmp (q61_16 ..) (fun _ => rfl) ?_
    simp only [oneCell_int, oneCell_str, oneCell_bool, oneCell_row, oneCell_ep, oneCell_nilp, cond_true, cond_false, optK_some, ldV_int, ldV_str, ldV_bool, ldV_row, ldV_ep, ldV_nilp, rdBin_add, rdBin_sub, rdBin_mul, rdBin_lss, rdBin_leq, rdBin_gtr, rdBin_geq, rdBin_eql, rdBin_neq, rdBin_seql, rdBin_sneq, unV_not, bvK_bool, bK_true, bK_false, Bool.not_true, Bool.not_false, Bool.not_not, rdNil_ep, rdNil_ptr, oneCell_sl, ldV_sl, vEq_self, List.length_nil, Int.cast_ofNat_Int, Int.reduceEq, Int.reduceLT, Int.reduceLE, decide_true, decide_false, eq_self, Bool.and_self, fa_25_0, fa_25_1, fa_25_2, fa_25_3, fa_25_4, fa_25_5, fa_67_0, fa_67_1, fa_67_2, fa_67_3, fa_69_0, fa_69_1, fa_69_2, fa_71_0, fa_71_1, fa_71_2, fa_71_3, fa_95_0, fa_95_1, fa_95_2, fa_102_0, fa_125_0, fa_125_1, fa_125_2, fa_125_3, fa_125_4, fa_145_0, fa_145_1, fa_177_0, fa_177_1, fp_25_0, fp_25_1, fp_25_2, fp_25_3, fp_25_4, fp_25_5, fp_67_0, fp_67_1, fp_67_2, fp_67_3, fp_69_0, fp_69_1, fp_69_2, fp_71_0, fp_71_1, fp_71_2, fp_71_3, fp_102_0, fp_125_0, fp_125_1, fp_125_2, fp_125_3, fp_125_4, fp_177_0, fp_177_1, fp_177_2, fp_177_3, ld_2, ld_3, ld_9, ld_22, ld_23, ld_25, ld_30, ld_63, ld_64, ld_65, ld_67, ld_69, ld_71, ld_100, ld_125, ld_141, ld_177, len_9, len_22, lenS_22, lenN_22, len_23, lenS_23, lenN_23, len_30, lenS_30, lenN_30, len_63, lenS_63, lenN_63, len_64, lenS_64, lenN_64, len_65, lenS_65, lenN_65, len_148, lenS_148, lenN_148, len_205, lenS_205, lenN_205, beql_4, pneq_141, pneq0_141]
    refine Wq.bK (fun h => ?_) (fun h => ?_)
    · rw [hR', if_pos (hok.1 h)]; exact Wq.ret hA1
    rw [if_neg (fun q => by have := hok.2 q; rw [this] at h; cases h)] at hR'
    refine Wq.ite (fun h => L28 _ _ _ hA1 (by simp [h]) hR') (fun h1 => ?_)
    refine Wq.ite (fun h => L28 _ _ _ hA1 (by simp [h]) hR') (fun h3 => ?_)
    refine Wq.ite (fun h => L28 _ _ _ hA1 (by simp [h]) hR') (fun h7 => ?_)
    exact L28 _ _ _ hA1 (by simp; omega) hR'
  have L12 : ∀ (ok : Bool) H1 nx1, Ag nx H nx1 H1 → (ok = true ↔ (s.k = 5 ∨ s.k = 8)) → R = (if s.k = 5 ∨ s.k = 8 then decide (s.to = 0 ∧ 0 ≤ s.n ∧ (s.k = 5 ∨ s.n < 1024)) else if s.to < 0 ∨ f.locs ≤ s.to then false else if s.k = 1 ∨ s.k = 3 ∨ s.k = 7 ∨ s.k = 9 then decide (s.n = 0) else if s.k = 6 then decide (0 ≤ s.n ∧ s.n < 16384) else if s.k = 10 then decide (0 ≤ s.n ∧ s.n < f.locs) else true) →
      Wq P pl X (.jump (l61_12 (funsV fs) (i64 k) (eptrV s.cells) ok H1 nx1)) nx H (.bool R) := by
    intro ok H1 nx1 hA1 hok hR'
    refine Wq.jmp (q61_12 ..) (fun _ => rfl) ?_
    simp only [oneCell_int, oneCell_str, oneCell_bool, oneCell_row, oneCell_ep, oneCell_nilp, cond_true, cond_false, optK_some, ldV_int, ldV_str, ldV_bool, ldV_row, ldV_ep, ldV_nilp, rdBin_add, rdBin_sub, rdBin_mul, rdBin_lss, rdBin_leq, rdBin_gtr, rdBin_geq, rdBin_eql, rdBin_neq, rdBin_seql, rdBin_sneq, unV_not, bvK_bool, bK_true, bK_false, Bool.not_true, Bool.not_false, Bool.not_not, rdNil_ep, rdNil_ptr, oneCell_sl, ldV_sl, vEq_self, List.length_nil, Int.cast_ofNat_Int, Int.reduceEq, Int.reduceLT, Int.reduceLE, decide_true, decide_false, eq_self, Bool.and_self, fa_25_0, fa_25_1, fa_25_2, fa_25_3, fa_25_4, fa_25_5, fa_67_0, fa_67_1, fa_67_2, fa_67_3, fa_69_0, fa_69_1, fa_69_2, fa_71_0, fa_71_1, fa_71_2, fa_71_3, fa_95_0, fa_95_1, fa_95_2, fa_102_0, fa_125_0, fa_125_1, fa_125_2, fa_125_3, fa_125_4, fa_145_0, fa_145_1, fa_177_0, fa_177_1, fp_25_0, fp_25_1, fp_25_2, fp_25_3, fp_25_4, fp_25_5, fp_67_0, fp_67_1, fp_67_2, fp_67_3, fp_69_0, fp_69_1, fp_69_2, fp_71_0, fp_71_1, fp_71_2, fp_71_3, fp_102_0, fp_125_0, fp_125_1, fp_125_2, fp_125_3, fp_125_4, fp_177_0, fp_177_1, fp_177_2, fp_177_3, ld_2, ld_3, ld_9, ld_22, ld_23, ld_25, ld_30, ld_63, ld_64, ld_65, ld_67, ld_69, ld_71, ld_100, ld_125, ld_141, ld_177, len_9, len_22, lenS_22, lenN_22, len_23, lenS_23, lenN_23, len_30, lenS_30, lenN_30, len_63, lenS_63, lenN_63, len_64, lenS_64, lenN_64, len_65, lenS_65, lenN_65, len_148, lenS_148, lenN_148, len_205, lenS_205, lenN_205, beql_4, pneq_141, pneq0_141, funsV, ix_30 hfv]
    refine Wq.bK (fun h => ?_) (fun h => ?_)
    · rw [if_pos (hok.1 h)] at hR'
      refine Wq.ite (fun h1 => ?_) (fun h1 => ?_)
      · refine Wq.ite (fun h2 => ?_) (fun h2 => ?_)
        · refine Wq.ite (fun h3 => ?_) (fun h3 => ?_)
          · exact Wq.retE (by rw [hR']; grind) hA1
          · exact Wq.retE (by rw [hR']; grind) hA1
        · exact Wq.retE (by rw [hR']; grind) hA1
      · exact Wq.retE (by rw [hR']; grind) hA1
    rw [if_neg (fun q => by have := hok.2 q; rw [this] at h; cases h)] at hR'
    refine Wq.ite (fun h => L16 _ _ _ hA1 (by simp [h]) hR') (fun h1 => ?_)
    exact L16 _ _ _ hA1 (by simp; omega) hR'
  have L8 : ∀ (bad : Bool) H1 nx1, Ag nx H nx1 H1 → R = (if bad = true then false else if s.k = 5 ∨ s.k = 8 then decide (s.to = 0 ∧ 0 ≤ s.n ∧ (s.k = 5 ∨ s.n < 1024)) else if s.to < 0 ∨ f.locs ≤ s.to then false else if s.k = 1 ∨ s.k = 3 ∨ s.k = 7 ∨ s.k = 9 then decide (s.n = 0) else if s.k = 6 then decide (0 ≤ s.n ∧ s.n < 16384) else if s.k = 10 then decide (0 ≤ s.n ∧ s.n < f.locs) else true) →
      Wq P pl X (.jump (l61_8 (funsV fs) (i64 k) (eptrV s.cells) bad H1 nx1)) nx H (.bool R) := by
    intro bad H1 nx1 hA1 hR'
    refine Wq.jmp (q61_8 ..) (fun _ => rfl) ?_
    simp only [oneCell_int, oneCell_str, oneCell_bool, oneCell_row, oneCell_ep, oneCell_nilp, cond_true, cond_false, optK_some, ldV_int, ldV_str, ldV_bool, ldV_row, ldV_ep, ldV_nilp, rdBin_add, rdBin_sub, rdBin_mul, rdBin_lss, rdBin_leq, rdBin_gtr, rdBin_geq, rdBin_eql, rdBin_neq, rdBin_seql, rdBin_sneq, unV_not, bvK_bool, bK_true, bK_false, Bool.not_true, Bool.not_false, Bool.not_not, rdNil_ep, rdNil_ptr, oneCell_sl, ldV_sl, vEq_self, List.length_nil, Int.cast_ofNat_Int, Int.reduceEq, Int.reduceLT, Int.reduceLE, decide_true, decide_false, eq_self, Bool.and_self, fa_25_0, fa_25_1, fa_25_2, fa_25_3, fa_25_4, fa_25_5, fa_67_0, fa_67_1, fa_67_2, fa_67_3, fa_69_0, fa_69_1, fa_69_2, fa_71_0, fa_71_1, fa_71_2, fa_71_3, fa_95_0, fa_95_1, fa_95_2, fa_102_0, fa_125_0, fa_125_1, fa_125_2, fa_125_3, fa_125_4, fa_145_0, fa_145_1, fa_177_0, fa_177_1, fp_25_0, fp_25_1, fp_25_2, fp_25_3, fp_25_4, fp_25_5, fp_67_0, fp_67_1, fp_67_2, fp_67_3, fp_69_0, fp_69_1, fp_69_2, fp_71_0, fp_71_1, fp_71_2, fp_71_3, fp_102_0, fp_125_0, fp_125_1, fp_125_2, fp_125_3, fp_125_4, fp_177_0, fp_177_1, fp_177_2, fp_177_3, ld_2, ld_3, ld_9, ld_22, ld_23, ld_25, ld_30, ld_63, ld_64, ld_65, ld_67, ld_69, ld_71, ld_100, ld_125, ld_141, ld_177, len_9, len_22, lenS_22, lenN_22, len_23, lenS_23, lenN_23, len_30, lenS_30, lenN_30, len_63, lenS_63, lenN_63, len_64, lenS_64, lenN_64, len_65, lenS_65, lenN_65, len_148, lenS_148, lenN_148, len_205, lenS_205, lenN_205, beql_4, pneq_141, pneq0_141]
    refine Wq.bK (fun h => ?_) (fun h => ?_)
    · rw [if_pos h] at hR'; exact Wq.retE (by rw [hR']) hA1
    rw [if_neg (by rw [h]; simp)] at hR'
    refine Wq.ite (fun h => L12 _ _ _ hA1 (by simp [h]) hR') (fun h1 => ?_)
    exact L12 _ _ _ hA1 (by simp; omega) hR'
  simp only [oneCell_int, oneCell_str, oneCell_bool, oneCell_row, oneCell_ep, oneCell_nilp, cond_true, cond_false, optK_some, ldV_int, ldV_str, ldV_bool, ldV_row, ldV_ep, ldV_nilp, rdBin_add, rdBin_sub, rdBin_mul, rdBin_lss, rdBin_leq, rdBin_gtr, rdBin_geq, rdBin_eql, rdBin_neq, rdBin_seql, rdBin_sneq, unV_not, bvK_bool, bK_true, bK_false, Bool.not_true, Bool.not_false, Bool.not_not, rdNil_ep, rdNil_ptr, oneCell_sl, ldV_sl, vEq_self, List.length_nil, Int.cast_ofNat_Int, Int.reduceEq, Int.reduceLT, Int.reduceLE, decide_true, decide_false, eq_self, Bool.and_self, fa_25_0, fa_25_1, fa_25_2, fa_25_3, fa_25_4, fa_25_5, fa_67_0, fa_67_1, fa_67_2, fa_67_3, fa_69_0, fa_69_1, fa_69_2, fa_71_0, fa_71_1, fa_71_2, fa_71_3, fa_95_0, fa_95_1, fa_95_2, fa_102_0, fa_125_0, fa_125_1, fa_125_2, fa_125_3, fa_125_4, fa_145_0, fa_145_1, fa_177_0, fa_177_1, fp_25_0, fp_25_1, fp_25_2, fp_25_3, fp_25_4, fp_25_5, fp_67_0, fp_67_1, fp_67_2, fp_67_3, fp_69_0, fp_69_1, fp_69_2, fp_71_0, fp_71_1, fp_71_2, fp_71_3, fp_102_0, fp_125_0, fp_125_1, fp_125_2, fp_125_3, fp_125_4, fp_177_0, fp_177_1, fp_177_2, fp_177_3, ld_2, ld_3, ld_9, ld_22, ld_23, ld_25, ld_30, ld_63, ld_64, ld_65, ld_67, ld_69, ld_71, ld_100, ld_125, ld_141, ld_177, len_9, len_22, lenS_22, lenN_22, len_23, lenS_23, lenN_23, len_30, lenS_30, lenN_30, len_63, lenS_63, lenN_63, len_64, lenS_64, lenN_64, len_65, lenS_65, lenN_65, len_148, lenS_148, lenN_148, len_205, lenS_205, lenN_205, beql_4, pneq_141, pneq0_141, atomsV, List.length_map]
  refine Wq.call hp99 hA fun H1 nx1 hA1 => ?_
  have x0 : rdExtract (some (.tuple ⟨[i64 (nd fs s).1, i64 (nd fs s).2]⟩)) 0 = some (i64 (nd fs s).1) := rfl
  have x1 : rdExtract (some (.tuple ⟨[i64 (nd fs s).1, i64 (nd fs s).2]⟩)) 1 = some (i64 (nd fs s).2) := rfl
  simp only [oneCell_int, oneCell_str, oneCell_bool, oneCell_row, oneCell_ep, oneCell_nilp, cond_true, cond_false, optK_some, ldV_int, ldV_str, ldV_bool, ldV_row, ldV_ep, ldV_nilp, rdBin_add, rdBin_sub, rdBin_mul, rdBin_lss, rdBin_leq, rdBin_gtr, rdBin_geq, rdBin_eql, rdBin_neq, rdBin_seql, rdBin_sneq, unV_not, bvK_bool, bK_true, bK_false, Bool.not_true, Bool.not_false, Bool.not_not, rdNil_ep, rdNil_ptr, oneCell_sl, ldV_sl, vEq_self, List.length_nil, Int.cast_ofNat_Int, Int.reduceEq, Int.reduceLT, Int.reduceLE, decide_true, decide_false, eq_self, Bool.and_self, fa_25_0, fa_25_1, fa_25_2, fa_25_3, fa_25_4, fa_25_5, fa_67_0, fa_67_1, fa_67_2, fa_67_3, fa_69_0, fa_69_1, fa_69_2, fa_71_0, fa_71_1, fa_71_2, fa_71_3, fa_95_0, fa_95_1, fa_95_2, fa_102_0, fa_125_0, fa_125_1, fa_125_2, fa_125_3, fa_125_4, fa_145_0, fa_145_1, fa_177_0, fa_177_1, fp_25_0, fp_25_1, fp_25_2, fp_25_3, fp_25_4, fp_25_5, fp_67_0, fp_67_1, fp_67_2, fp_67_3, fp_69_0, fp_69_1, fp_69_2, fp_71_0, fp_71_1, fp_71_2, fp_71_3, fp_102_0, fp_125_0, fp_125_1, fp_125_2, fp_125_3, fp_125_4, fp_177_0, fp_177_1, fp_177_2, fp_177_3, ld_2, ld_3, ld_9, ld_22, ld_23, ld_25, ld_30, ld_63, ld_64, ld_65, ld_67, ld_69, ld_71, ld_100, ld_125, ld_141, ld_177, len_9, len_22, lenS_22, lenN_22, len_23, lenS_23, lenN_23, len_30, lenS_30, lenN_30, len_63, lenS_63, lenN_63, len_64, lenS_64, lenN_64, len_65, lenS_65, lenN_65, len_148, lenS_148, lenN_148, len_205, lenS_205, lenN_205, beql_4, pneq_141, pneq0_141, x0, x1]
  unfold stOk at hR
  refine Wq.ite (fun h => L8 _ _ _ hA1 (by rw [← hR, if_pos (Or.inl h)]; simp)) (fun h1 => ?_)
  refine Wq.bK (fun h => L8 _ _ _ hA1 (by rw [← hR, if_pos (by simp at h; omega)]; simp)) (fun h2 => ?_)
  refine Wq.bK (fun h => L8 _ _ _ hA1 (by rw [← hR, if_pos (by simp at h; omega)]; simp)) (fun h3 => ?_)
  refine Wq.call (pu_63 fs k s.args gv g f hgv hf hg hs.1) hA1 fun H2 nx2 hA2 => ?_
  simp only [oneCell_int, oneCell_str, oneCell_bool, oneCell_row, oneCell_ep, oneCell_nilp, cond_true, cond_false, optK_some, ldV_int, ldV_str, ldV_bool, ldV_row, ldV_ep, ldV_nilp, rdBin_add, rdBin_sub, rdBin_mul, rdBin_lss, rdBin_leq, rdBin_gtr, rdBin_geq, rdBin_eql, rdBin_neq, rdBin_seql, rdBin_sneq, unV_not, bvK_bool, bK_true, bK_false, Bool.not_true, Bool.not_false, Bool.not_not, rdNil_ep, rdNil_ptr, oneCell_sl, ldV_sl, vEq_self, List.length_nil, Int.cast_ofNat_Int, Int.reduceEq, Int.reduceLT, Int.reduceLE, decide_true, decide_false, eq_self, Bool.and_self, fa_25_0, fa_25_1, fa_25_2, fa_25_3, fa_25_4, fa_25_5, fa_67_0, fa_67_1, fa_67_2, fa_67_3, fa_69_0, fa_69_1, fa_69_2, fa_71_0, fa_71_1, fa_71_2, fa_71_3, fa_95_0, fa_95_1, fa_95_2, fa_102_0, fa_125_0, fa_125_1, fa_125_2, fa_125_3, fa_125_4, fa_145_0, fa_145_1, fa_177_0, fa_177_1, fp_25_0, fp_25_1, fp_25_2, fp_25_3, fp_25_4, fp_25_5, fp_67_0, fp_67_1, fp_67_2, fp_67_3, fp_69_0, fp_69_1, fp_69_2, fp_71_0, fp_71_1, fp_71_2, fp_71_3, fp_102_0, fp_125_0, fp_125_1, fp_125_2, fp_125_3, fp_125_4, fp_177_0, fp_177_1, fp_177_2, fp_177_3, ld_2, ld_3, ld_9, ld_22, ld_23, ld_25, ld_30, ld_63, ld_64, ld_65, ld_67, ld_69, ld_71, ld_100, ld_125, ld_141, ld_177, len_9, len_22, lenS_22, lenN_22, len_23, lenS_23, lenN_23, len_30, lenS_30, lenN_30, len_63, lenS_63, lenN_63, len_64, lenS_64, lenN_64, len_65, lenS_65, lenN_65, len_148, lenS_148, lenN_148, len_205, lenS_205, lenN_205, beql_4, pneq_141, pneq0_141]
  refine L8 _ _ _ hA2 ?_
  rw [← hR, if_neg (by simp at h2 h3; omega)]
  simp only [Bool.not_eq_true']
end
end Go.Proofs.YtfdgoenmdalphaaGreatDoor
