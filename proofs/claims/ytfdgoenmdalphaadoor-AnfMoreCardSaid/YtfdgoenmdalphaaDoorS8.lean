/- The program's answers: atoms. -/
import Derived.Test.YtfdgoenmdalphaaDoorS7
namespace Go.Proofs.YtfdgoenmdalphaaDoor
open Go.Ev Go.RowKit
noncomputable section
set_option maxRecDepth 100000
set_option linter.unusedVariables false
set_option linter.unusedSimpArgs false
abbrev Fun.cl (f : Fun) : List Value := [i64 f.free, i64 f.locs, rowV 5 (f.body.steps.map Step.v), i64 f.body.e, atomsV f.body.args, rowV 4 (f.body.blocks.map Block.v)]
/-- What a reader holds of its function, that nobody reads. -/
structure RV where
  a : Value
  b : Value
  c : Value
  d : Value
/-- One that looks whether a function is right; 'L': the functions, of which what a closure takes is read. -/
abbrev rdr (L : List Value) (r : RV) (f : Fun) (k : Int) : Value := eptrV (.agg ⟨[rowV 6 L, i64 f.free, i64 f.locs, r.a, r.b, r.c, r.d, i64 k]⟩)
def LOK (L : List Value) (fs : List Fun) : Prop := L.length = fs.length ∧ ∀ (i : Nat) (f : Fun), fs[i]? = some f → ∃ a b c d e, L[i]? = some (.agg ⟨[i64 f.free, a, b, c, d, e]⟩)
def seenV : List Int → Value
  | [] => .pointer none
  | n :: l => eptrV (.agg ⟨[i64 n, seenV l]⟩)
theorem one_seen (l : List Int) : oneCell (seenV l) = true := by cases l <;> rfl
theorem ldV_seen (l : List Int) : ldV (some false) (some 1) (seenV l) = some (seenV l) := by cases l <;> rfl
theorem pu_60 (l : List Int) (n : Int) : Pu 60 [seenV l, i64 n] (.bool (l.contains n)) := Pure.of rfl fun H nx => by
  rw [q60]
  have L : ∀ l : List Int, Wq P pl X (.jump (l60_5 (seenV l) (i64 n) H nx)) nx H (.bool (l.contains n)) := by
    intro l
    induction l with
    | nil =>
      refine Wq.jmp (q60_5 ..) (fun _ => rfl) ?_
      simp only [oneCell_int, oneCell_str, oneCell_bool, oneCell_row, oneCell_ep, oneCell_nilp, cond_true, cond_false, optK_some, ldV_int, ldV_str, ldV_bool, ldV_row, ldV_ep, ldV_nilp, rdBin_add, rdBin_sub, rdBin_mul, rdBin_lss, rdBin_leq, rdBin_gtr, rdBin_geq, rdBin_eql, rdBin_neq, rdBin_seql, rdBin_sneq, unV_not, bvK_bool, bK_true, bK_false, Bool.not_true, Bool.not_false, Bool.not_not, rdNil_ep, rdNil_ptr, oneCell_sl, ldV_sl, vEq_self, List.length_nil, Int.cast_ofNat_Int, Int.reduceEq, Int.reduceLT, Int.reduceLE, decide_true, decide_false, eq_self, Bool.and_self, fa_26_0, fa_26_1, fa_26_2, fa_26_3, fa_31_0, fa_31_1, fa_31_2, fa_31_3, fa_33_0, fa_33_1, fa_33_2, fa_43_0, fa_43_1, fa_43_2, fa_43_3, fa_43_4, fa_43_5, fa_58_0, fa_58_1, fa_58_2, fa_62_0, fa_62_1, fa_62_2, fa_62_3, fa_62_4, fa_101_0, fa_101_1, fp_26_0, fp_26_1, fp_26_2, fp_26_3, fp_31_0, fp_31_1, fp_31_2, fp_31_3, fp_33_0, fp_33_1, fp_33_2, fp_43_0, fp_43_1, fp_43_2, fp_43_3, fp_43_4, fp_43_5, fp_62_0, fp_62_1, fp_62_2, fp_62_3, fp_62_4, ld_2, ld_3, ld_9, ld_22, ld_26, ld_27, ld_28, ld_29, ld_31, ld_33, ld_40, ld_41, ld_43, ld_62, ld_97, len_9, len_22, lenS_22, lenN_22, len_27, lenS_27, lenN_27, len_28, lenS_28, lenN_28, len_29, lenS_29, lenN_29, len_40, lenS_40, lenN_40, len_41, lenS_41, lenN_41, pneq_97, pneq0_97, seenV]
      exact Wq.ret (.refl _ _)
    | cons a l ih =>
      refine Wq.jmp (q60_5 ..) (fun _ => rfl) ?_
      simp only [oneCell_int, oneCell_str, oneCell_bool, oneCell_row, oneCell_ep, oneCell_nilp, cond_true, cond_false, optK_some, ldV_int, ldV_str, ldV_bool, ldV_row, ldV_ep, ldV_nilp, rdBin_add, rdBin_sub, rdBin_mul, rdBin_lss, rdBin_leq, rdBin_gtr, rdBin_geq, rdBin_eql, rdBin_neq, rdBin_seql, rdBin_sneq, unV_not, bvK_bool, bK_true, bK_false, Bool.not_true, Bool.not_false, Bool.not_not, rdNil_ep, rdNil_ptr, oneCell_sl, ldV_sl, vEq_self, List.length_nil, Int.cast_ofNat_Int, Int.reduceEq, Int.reduceLT, Int.reduceLE, decide_true, decide_false, eq_self, Bool.and_self, fa_26_0, fa_26_1, fa_26_2, fa_26_3, fa_31_0, fa_31_1, fa_31_2, fa_31_3, fa_33_0, fa_33_1, fa_33_2, fa_43_0, fa_43_1, fa_43_2, fa_43_3, fa_43_4, fa_43_5, fa_58_0, fa_58_1, fa_58_2, fa_62_0, fa_62_1, fa_62_2, fa_62_3, fa_62_4, fa_101_0, fa_101_1, fp_26_0, fp_26_1, fp_26_2, fp_26_3, fp_31_0, fp_31_1, fp_31_2, fp_31_3, fp_33_0, fp_33_1, fp_33_2, fp_43_0, fp_43_1, fp_43_2, fp_43_3, fp_43_4, fp_43_5, fp_62_0, fp_62_1, fp_62_2, fp_62_3, fp_62_4, ld_2, ld_3, ld_9, ld_22, ld_26, ld_27, ld_28, ld_29, ld_31, ld_33, ld_40, ld_41, ld_43, ld_62, ld_97, len_9, len_22, lenS_22, lenN_22, len_27, lenS_27, lenN_27, len_28, lenS_28, lenN_28, len_29, lenS_29, lenN_29, len_40, lenS_40, lenN_40, len_41, lenS_41, lenN_41, pneq_97, pneq0_97, seenV, pneq_97, rdNil_ep, one_seen, ldV_seen]
      refine Wq.ite (fun h => ?_) (fun h => ?_)
      · exact Wq.retE (by subst h; simp) (.refl _ _)
      · have : ((a :: l).contains n) = l.contains n := by rw [List.contains_cons, show (n == a) = false from by simp; exact fun q => h q.symm, Bool.false_or]
        rw [this]; exact ih
  exact L l
theorem pu_44 (L : List Value) (r : RV) (f : Fun) (k : Int) (a : Atom) (g : List Int) (first : Bool) (hk : first = true ↔ ¬ 0 < k) :
    Pu 44 [rdr L r f k, a.v, seenV g] (.bool (aOk f.free f.locs first g a)) := Pure.of rfl fun H nx => by
  rw [q44]
  refine Wq.natF' (.refl _ _) fun hA => ?_
  have hfi : first = !decide (0 < k) := by rw [Bool.eq_iff_iff, hk]; simp
  simp only [oneCell_int, oneCell_str, oneCell_bool, oneCell_row, oneCell_ep, oneCell_nilp, cond_true, cond_false, optK_some, ldV_int, ldV_str, ldV_bool, ldV_row, ldV_ep, ldV_nilp, rdBin_add, rdBin_sub, rdBin_mul, rdBin_lss, rdBin_leq, rdBin_gtr, rdBin_geq, rdBin_eql, rdBin_neq, rdBin_seql, rdBin_sneq, unV_not, bvK_bool, bK_true, bK_false, Bool.not_true, Bool.not_false, Bool.not_not, rdNil_ep, rdNil_ptr, oneCell_sl, ldV_sl, vEq_self, List.length_nil, Int.cast_ofNat_Int, Int.reduceEq, Int.reduceLT, Int.reduceLE, decide_true, decide_false, eq_self, Bool.and_self, fa_26_0, fa_26_1, fa_26_2, fa_26_3, fa_31_0, fa_31_1, fa_31_2, fa_31_3, fa_33_0, fa_33_1, fa_33_2, fa_43_0, fa_43_1, fa_43_2, fa_43_3, fa_43_4, fa_43_5, fa_58_0, fa_58_1, fa_58_2, fa_62_0, fa_62_1, fa_62_2, fa_62_3, fa_62_4, fa_101_0, fa_101_1, fp_26_0, fp_26_1, fp_26_2, fp_26_3, fp_31_0, fp_31_1, fp_31_2, fp_31_3, fp_33_0, fp_33_1, fp_33_2, fp_43_0, fp_43_1, fp_43_2, fp_43_3, fp_43_4, fp_43_5, fp_62_0, fp_62_1, fp_62_2, fp_62_3, fp_62_4, ld_2, ld_3, ld_9, ld_22, ld_26, ld_27, ld_28, ld_29, ld_31, ld_33, ld_40, ld_41, ld_43, ld_62, ld_97, len_9, len_22, lenS_22, lenN_22, len_27, lenS_27, lenN_27, len_28, lenS_28, lenN_28, len_29, lenS_29, lenN_29, len_40, lenS_40, lenN_40, len_41, lenS_41, lenN_41, pneq_97, pneq0_97, Atom.v, rdNil_ep]
  refine Wq.ite (fun h1 => ?_) (fun h1 => ?_)
  · refine Wq.ite (fun h => ?_) (fun h => ?_)
    · refine Wq.ite (fun h' => ?_) (fun h' => ?_)
      · refine Wq.call (pu_45 a.m) hA fun H1 nx1 hA1 => ?_
        simp only [oneCell_int, oneCell_str, oneCell_bool, oneCell_row, oneCell_ep, oneCell_nilp, cond_true, cond_false, optK_some, ldV_int, ldV_str, ldV_bool, ldV_row, ldV_ep, ldV_nilp, rdBin_add, rdBin_sub, rdBin_mul, rdBin_lss, rdBin_leq, rdBin_gtr, rdBin_geq, rdBin_eql, rdBin_neq, rdBin_seql, rdBin_sneq, unV_not, bvK_bool, bK_true, bK_false, Bool.not_true, Bool.not_false, Bool.not_not, rdNil_ep, rdNil_ptr, oneCell_sl, ldV_sl, vEq_self, List.length_nil, Int.cast_ofNat_Int, Int.reduceEq, Int.reduceLT, Int.reduceLE, decide_true, decide_false, eq_self, Bool.and_self, fa_26_0, fa_26_1, fa_26_2, fa_26_3, fa_31_0, fa_31_1, fa_31_2, fa_31_3, fa_33_0, fa_33_1, fa_33_2, fa_43_0, fa_43_1, fa_43_2, fa_43_3, fa_43_4, fa_43_5, fa_58_0, fa_58_1, fa_58_2, fa_62_0, fa_62_1, fa_62_2, fa_62_3, fa_62_4, fa_101_0, fa_101_1, fp_26_0, fp_26_1, fp_26_2, fp_26_3, fp_31_0, fp_31_1, fp_31_2, fp_31_3, fp_33_0, fp_33_1, fp_33_2, fp_43_0, fp_43_1, fp_43_2, fp_43_3, fp_43_4, fp_43_5, fp_62_0, fp_62_1, fp_62_2, fp_62_3, fp_62_4, ld_2, ld_3, ld_9, ld_22, ld_26, ld_27, ld_28, ld_29, ld_31, ld_33, ld_40, ld_41, ld_43, ld_62, ld_97, len_9, len_22, lenS_22, lenN_22, len_27, lenS_27, lenN_27, len_28, lenS_28, lenN_28, len_29, lenS_29, lenN_29, len_40, lenS_40, lenN_40, len_41, lenS_41, lenN_41, pneq_97, pneq0_97]
        exact Wq.retE (by congr 1; rw [Bool.eq_iff_iff]; simp [aOk, h1, h, h']) hA1
      · exact Wq.retE (by congr 1; rw [Bool.eq_iff_iff]; simp [aOk, h1, h, h']) hA
    · exact Wq.retE (by congr 1; rw [Bool.eq_iff_iff]; simp [aOk, h1, h]) hA
  refine Wq.ite (fun h2 => ?_) (fun h2 => ?_)
  · refine Wq.ite (fun h => ?_) (fun h => ?_)
    · exact Wq.retE (by congr 1; rw [Bool.eq_iff_iff]; simp [aOk, h2, h]) hA
    · exact Wq.retE (by congr 1; rw [Bool.eq_iff_iff]; simp [aOk, h2, h]) hA
  refine Wq.ite (fun h3 => ?_) (fun h3 => ?_)
  · repeat' (first | (refine Wq.ite (fun _ => ?_) (fun _ => ?_)))
    · refine Wq.call (pu_60 g a.n) hA fun H1 nx1 hA1 => ?_
      simp only [oneCell_int, oneCell_str, oneCell_bool, oneCell_row, oneCell_ep, oneCell_nilp, cond_true, cond_false, optK_some, ldV_int, ldV_str, ldV_bool, ldV_row, ldV_ep, ldV_nilp, rdBin_add, rdBin_sub, rdBin_mul, rdBin_lss, rdBin_leq, rdBin_gtr, rdBin_geq, rdBin_eql, rdBin_neq, rdBin_seql, rdBin_sneq, unV_not, bvK_bool, bK_true, bK_false, Bool.not_true, Bool.not_false, Bool.not_not, rdNil_ep, rdNil_ptr, oneCell_sl, ldV_sl, vEq_self, List.length_nil, Int.cast_ofNat_Int, Int.reduceEq, Int.reduceLT, Int.reduceLE, decide_true, decide_false, eq_self, Bool.and_self, fa_26_0, fa_26_1, fa_26_2, fa_26_3, fa_31_0, fa_31_1, fa_31_2, fa_31_3, fa_33_0, fa_33_1, fa_33_2, fa_43_0, fa_43_1, fa_43_2, fa_43_3, fa_43_4, fa_43_5, fa_58_0, fa_58_1, fa_58_2, fa_62_0, fa_62_1, fa_62_2, fa_62_3, fa_62_4, fa_101_0, fa_101_1, fp_26_0, fp_26_1, fp_26_2, fp_26_3, fp_31_0, fp_31_1, fp_31_2, fp_31_3, fp_33_0, fp_33_1, fp_33_2, fp_43_0, fp_43_1, fp_43_2, fp_43_3, fp_43_4, fp_43_5, fp_62_0, fp_62_1, fp_62_2, fp_62_3, fp_62_4, ld_2, ld_3, ld_9, ld_22, ld_26, ld_27, ld_28, ld_29, ld_31, ld_33, ld_40, ld_41, ld_43, ld_62, ld_97, len_9, len_22, lenS_22, lenN_22, len_27, lenS_27, lenN_27, len_28, lenS_28, lenN_28, len_29, lenS_29, lenN_29, len_40, lenS_40, lenN_40, len_41, lenS_41, lenN_41, pneq_97, pneq0_97]
      exact Wq.retE (by congr 1; rw [Bool.eq_iff_iff]; simp [aOk, h3]; grind) hA1
    all_goals exact Wq.retE (by congr 1; rw [Bool.eq_iff_iff]; simp [aOk, h3]; grind) hA
  refine Wq.ite (fun h4 => ?_) (fun h4 => ?_)
  · repeat' (first | (refine Wq.ite (fun _ => ?_) (fun _ => ?_)))
    all_goals exact Wq.retE (by congr 1; rw [Bool.eq_iff_iff]; simp [aOk, h4, hfi]; grind) hA
  refine Wq.ite (fun h5 => ?_) (fun h5 => ?_)
  · repeat' (first | (refine Wq.ite (fun _ => ?_) (fun _ => ?_)))
    all_goals exact Wq.retE (by congr 1; rw [Bool.eq_iff_iff]; simp [aOk, h5]; grind) hA
  refine Wq.ite (fun h6 => ?_) (fun h6 => ?_)
  · repeat' (first | (refine Wq.ite (fun _ => ?_) (fun _ => ?_)))
    all_goals exact Wq.retE (by congr 1; rw [Bool.eq_iff_iff]; simp [aOk, h6]; grind) hA
  · exact Wq.retE (by simp [aOk, h1, h2, h3, h4, h5, h6]) hA
theorem pu_29 (L : List Value) (r : RV) (f : Fun) (k : Int) (l : List Atom) (g : List Int) (first : Bool) (hk : first = true ↔ ¬ 0 < k) (hl : aSm l) :
    Pu 29 [rdr L r f k, atomsV l, seenV g] (.bool (l.all (aOk f.free f.locs first g))) := Pure.of rfl fun H nx => by
  have hbig : big = 1125899906842624 := rfl
  rw [q29]
  simp only [oneCell_int, oneCell_str, oneCell_bool, oneCell_row, oneCell_ep, oneCell_nilp, cond_true, cond_false, optK_some, ldV_int, ldV_str, ldV_bool, ldV_row, ldV_ep, ldV_nilp, rdBin_add, rdBin_sub, rdBin_mul, rdBin_lss, rdBin_leq, rdBin_gtr, rdBin_geq, rdBin_eql, rdBin_neq, rdBin_seql, rdBin_sneq, unV_not, bvK_bool, bK_true, bK_false, Bool.not_true, Bool.not_false, Bool.not_not, rdNil_ep, rdNil_ptr, oneCell_sl, ldV_sl, vEq_self, List.length_nil, Int.cast_ofNat_Int, Int.reduceEq, Int.reduceLT, Int.reduceLE, decide_true, decide_false, eq_self, Bool.and_self, fa_26_0, fa_26_1, fa_26_2, fa_26_3, fa_31_0, fa_31_1, fa_31_2, fa_31_3, fa_33_0, fa_33_1, fa_33_2, fa_43_0, fa_43_1, fa_43_2, fa_43_3, fa_43_4, fa_43_5, fa_58_0, fa_58_1, fa_58_2, fa_62_0, fa_62_1, fa_62_2, fa_62_3, fa_62_4, fa_101_0, fa_101_1, fp_26_0, fp_26_1, fp_26_2, fp_26_3, fp_31_0, fp_31_1, fp_31_2, fp_31_3, fp_33_0, fp_33_1, fp_33_2, fp_43_0, fp_43_1, fp_43_2, fp_43_3, fp_43_4, fp_43_5, fp_62_0, fp_62_1, fp_62_2, fp_62_3, fp_62_4, ld_2, ld_3, ld_9, ld_22, ld_26, ld_27, ld_28, ld_29, ld_31, ld_33, ld_40, ld_41, ld_43, ld_62, ld_97, len_9, len_22, lenS_22, lenN_22, len_27, lenS_27, lenN_27, len_28, lenS_28, lenN_28, len_29, lenS_29, lenN_29, len_40, lenS_40, lenN_40, len_41, lenS_41, lenN_41, pneq_97, pneq0_97, atomsV, List.length_map]
  refine Wq.each l (fun i (_ : Unit) H nx => .jump (l29_7 (rdr L r f k) (seenV g) (atomsV l) (i64 l.length) (i64 i) H nx)) (fun l _ => .bool (l.all (aOk f.free f.locs first g))) (fun _ H1 nx1 hA => ?_) (fun i a t _ H1 nx1 hgi hi ht hA ih => ?_) () H nx (.refl _ _)
  · refine Wq.jmp (q29_7 ..) (fun _ => rfl) ?_
    simp only [oneCell_int, oneCell_str, oneCell_bool, oneCell_row, oneCell_ep, oneCell_nilp, cond_true, cond_false, optK_some, ldV_int, ldV_str, ldV_bool, ldV_row, ldV_ep, ldV_nilp, rdBin_add, rdBin_sub, rdBin_mul, rdBin_lss, rdBin_leq, rdBin_gtr, rdBin_geq, rdBin_eql, rdBin_neq, rdBin_seql, rdBin_sneq, unV_not, bvK_bool, bK_true, bK_false, Bool.not_true, Bool.not_false, Bool.not_not, rdNil_ep, rdNil_ptr, oneCell_sl, ldV_sl, vEq_self, List.length_nil, Int.cast_ofNat_Int, Int.reduceEq, Int.reduceLT, Int.reduceLE, decide_true, decide_false, eq_self, Bool.and_self, fa_26_0, fa_26_1, fa_26_2, fa_26_3, fa_31_0, fa_31_1, fa_31_2, fa_31_3, fa_33_0, fa_33_1, fa_33_2, fa_43_0, fa_43_1, fa_43_2, fa_43_3, fa_43_4, fa_43_5, fa_58_0, fa_58_1, fa_58_2, fa_62_0, fa_62_1, fa_62_2, fa_62_3, fa_62_4, fa_101_0, fa_101_1, fp_26_0, fp_26_1, fp_26_2, fp_26_3, fp_31_0, fp_31_1, fp_31_2, fp_31_3, fp_33_0, fp_33_1, fp_33_2, fp_43_0, fp_43_1, fp_43_2, fp_43_3, fp_43_4, fp_43_5, fp_62_0, fp_62_1, fp_62_2, fp_62_3, fp_62_4, ld_2, ld_3, ld_9, ld_22, ld_26, ld_27, ld_28, ld_29, ld_31, ld_33, ld_40, ld_41, ld_43, ld_62, ld_97, len_9, len_22, lenS_22, lenN_22, len_27, lenS_27, lenN_27, len_28, lenS_28, lenN_28, len_29, lenS_29, lenN_29, len_40, lenS_40, lenN_40, len_41, lenS_41, lenN_41, pneq_97, pneq0_97, not_lt_len]
    exact Wq.ret hA
  · refine Wq.jmp (q29_7 ..) (fun _ => rfl) ?_
    have hg' : (l.map Atom.v)[i]? = some (.agg ⟨[i64 a.k, i64 a.n, i64 a.m, .string a.t]⟩) := by simp [hgi]
    have := hl.1
    simp only [oneCell_int, oneCell_str, oneCell_bool, oneCell_row, oneCell_ep, oneCell_nilp, cond_true, cond_false, optK_some, ldV_int, ldV_str, ldV_bool, ldV_row, ldV_ep, ldV_nilp, rdBin_add, rdBin_sub, rdBin_mul, rdBin_lss, rdBin_leq, rdBin_gtr, rdBin_geq, rdBin_eql, rdBin_neq, rdBin_seql, rdBin_sneq, unV_not, bvK_bool, bK_true, bK_false, Bool.not_true, Bool.not_false, Bool.not_not, rdNil_ep, rdNil_ptr, oneCell_sl, ldV_sl, vEq_self, List.length_nil, Int.cast_ofNat_Int, Int.reduceEq, Int.reduceLT, Int.reduceLE, decide_true, decide_false, eq_self, Bool.and_self, fa_26_0, fa_26_1, fa_26_2, fa_26_3, fa_31_0, fa_31_1, fa_31_2, fa_31_3, fa_33_0, fa_33_1, fa_33_2, fa_43_0, fa_43_1, fa_43_2, fa_43_3, fa_43_4, fa_43_5, fa_58_0, fa_58_1, fa_58_2, fa_62_0, fa_62_1, fa_62_2, fa_62_3, fa_62_4, fa_101_0, fa_101_1, fp_26_0, fp_26_1, fp_26_2, fp_26_3, fp_31_0, fp_31_1, fp_31_2, fp_31_3, fp_33_0, fp_33_1, fp_33_2, fp_43_0, fp_43_1, fp_43_2, fp_43_3, fp_43_4, fp_43_5, fp_62_0, fp_62_1, fp_62_2, fp_62_3, fp_62_4, ld_2, ld_3, ld_9, ld_22, ld_26, ld_27, ld_28, ld_29, ld_31, ld_33, ld_40, ld_41, ld_43, ld_62, ld_97, len_9, len_22, lenS_22, lenN_22, len_27, lenS_27, lenN_27, len_28, lenS_28, lenN_28, len_29, lenS_29, lenN_29, len_40, lenS_40, lenN_40, len_41, lenS_41, lenN_41, pneq_97, pneq0_97, atomsV, List.length_map, is_lt_len hi, ix_27 hg', wrap_succ (show i < 9223372036854775807 by omega)]
    refine Wq.var zero_26 sz_26 rfl rfl rfl hA fun H2 nx2 hA2 => ?_
    refine Wq.call (pu_44 L r f k a g first hk) hA2 fun H2 nx2 hA2 => ?_
    simp only [oneCell_int, oneCell_str, oneCell_bool, oneCell_row, oneCell_ep, oneCell_nilp, cond_true, cond_false, optK_some, ldV_int, ldV_str, ldV_bool, ldV_row, ldV_ep, ldV_nilp, rdBin_add, rdBin_sub, rdBin_mul, rdBin_lss, rdBin_leq, rdBin_gtr, rdBin_geq, rdBin_eql, rdBin_neq, rdBin_seql, rdBin_sneq, unV_not, bvK_bool, bK_true, bK_false, Bool.not_true, Bool.not_false, Bool.not_not, rdNil_ep, rdNil_ptr, oneCell_sl, ldV_sl, vEq_self, List.length_nil, Int.cast_ofNat_Int, Int.reduceEq, Int.reduceLT, Int.reduceLE, decide_true, decide_false, eq_self, Bool.and_self, fa_26_0, fa_26_1, fa_26_2, fa_26_3, fa_31_0, fa_31_1, fa_31_2, fa_31_3, fa_33_0, fa_33_1, fa_33_2, fa_43_0, fa_43_1, fa_43_2, fa_43_3, fa_43_4, fa_43_5, fa_58_0, fa_58_1, fa_58_2, fa_62_0, fa_62_1, fa_62_2, fa_62_3, fa_62_4, fa_101_0, fa_101_1, fp_26_0, fp_26_1, fp_26_2, fp_26_3, fp_31_0, fp_31_1, fp_31_2, fp_31_3, fp_33_0, fp_33_1, fp_33_2, fp_43_0, fp_43_1, fp_43_2, fp_43_3, fp_43_4, fp_43_5, fp_62_0, fp_62_1, fp_62_2, fp_62_3, fp_62_4, ld_2, ld_3, ld_9, ld_22, ld_26, ld_27, ld_28, ld_29, ld_31, ld_33, ld_40, ld_41, ld_43, ld_62, ld_97, len_9, len_22, lenS_22, lenN_22, len_27, lenS_27, lenN_27, len_28, lenS_28, lenN_28, len_29, lenS_29, lenN_29, len_40, lenS_40, lenN_40, len_41, lenS_41, lenN_41, pneq_97, pneq0_97]
    rw [List.all_cons]
    cases aOk f.free f.locs first g a
    · exact Wq.ret hA2
    · simp only [oneCell_int, oneCell_str, oneCell_bool, oneCell_row, oneCell_ep, oneCell_nilp, cond_true, cond_false, optK_some, ldV_int, ldV_str, ldV_bool, ldV_row, ldV_ep, ldV_nilp, rdBin_add, rdBin_sub, rdBin_mul, rdBin_lss, rdBin_leq, rdBin_gtr, rdBin_geq, rdBin_eql, rdBin_neq, rdBin_seql, rdBin_sneq, unV_not, bvK_bool, bK_true, bK_false, Bool.not_true, Bool.not_false, Bool.not_not, rdNil_ep, rdNil_ptr, oneCell_sl, ldV_sl, vEq_self, List.length_nil, Int.cast_ofNat_Int, Int.reduceEq, Int.reduceLT, Int.reduceLE, decide_true, decide_false, eq_self, Bool.and_self, fa_26_0, fa_26_1, fa_26_2, fa_26_3, fa_31_0, fa_31_1, fa_31_2, fa_31_3, fa_33_0, fa_33_1, fa_33_2, fa_43_0, fa_43_1, fa_43_2, fa_43_3, fa_43_4, fa_43_5, fa_58_0, fa_58_1, fa_58_2, fa_62_0, fa_62_1, fa_62_2, fa_62_3, fa_62_4, fa_101_0, fa_101_1, fp_26_0, fp_26_1, fp_26_2, fp_26_3, fp_31_0, fp_31_1, fp_31_2, fp_31_3, fp_33_0, fp_33_1, fp_33_2, fp_43_0, fp_43_1, fp_43_2, fp_43_3, fp_43_4, fp_43_5, fp_62_0, fp_62_1, fp_62_2, fp_62_3, fp_62_4, ld_2, ld_3, ld_9, ld_22, ld_26, ld_27, ld_28, ld_29, ld_31, ld_33, ld_40, ld_41, ld_43, ld_62, ld_97, len_9, len_22, lenS_22, lenN_22, len_27, lenS_27, lenN_27, len_28, lenS_28, lenN_28, len_29, lenS_29, lenN_29, len_40, lenS_40, lenN_40, len_41, lenS_41, lenN_41, pneq_97, pneq0_97]
      exact ih () _ _ hA2
end
end Go.Proofs.YtfdgoenmdalphaaDoor
