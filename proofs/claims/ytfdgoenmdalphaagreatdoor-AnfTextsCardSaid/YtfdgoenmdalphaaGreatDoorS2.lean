/- Atoms, blocks, functions as values; which atoms are right. -/
import Derived.Test.YtfdgoenmdalphaaGreatDoorS1
namespace Go.Proofs.YtfdgoenmdalphaaGreatDoor
open Go.Ev Go.RowKit
noncomputable section
set_option maxRecDepth 100000
set_option linter.unusedVariables false
set_option linter.unusedSimpArgs false
structure Atom where
  k : Int
  n : Int
  m : Int
  t : ByteArray
mutual
inductive Block where
  | mk (steps : List Step) (e : Int) (args : List Atom) (blocks : List Block)
inductive Step where
  | mk (k to n : Int) (args : List Atom) (blocks : List Block)
end
structure Fun where
  free : Int
  locs : Int
  body : Block
abbrev E0 : ByteArray := ⟨⟨[]⟩⟩
@[simp] def Atom.v (a : Atom) : Value := .agg ⟨[i64 a.k, i64 a.n, i64 a.m, .string a.t]⟩
def atomsV (l : List Atom) : Value := rowV 4 (l.map Atom.v)
mutual
def Block.v : Block → Value
  | .mk s e a b => .agg ⟨[rowV 5 (stepsL s), i64 e, atomsV a, rowV 4 (blocksL b)]⟩
def Step.v : Step → Value
  | .mk k t n a b => .agg ⟨[i64 k, i64 t, i64 n, atomsV a, rowV 4 (blocksL b)]⟩
def stepsL : List Step → List Value
  | [] => []
  | s :: l => s.v :: stepsL l
def blocksL : List Block → List Value
  | [] => []
  | b :: l => b.v :: blocksL l
end
theorem stepsL_eq (l : List Step) : stepsL l = l.map Step.v := by
  induction l with
  | nil => rw [stepsL]; rfl
  | cons s l ih => rw [stepsL, ih]; rfl
theorem blocksL_eq (l : List Block) : blocksL l = l.map Block.v := by
  induction l with
  | nil => rw [blocksL]; rfl
  | cons s l ih => rw [blocksL, ih]; rfl
def Block.steps : Block → List Step | .mk s _ _ _ => s
def Block.e : Block → Int | .mk _ e _ _ => e
def Block.args : Block → List Atom | .mk _ _ a _ => a
def Block.blocks : Block → List Block | .mk _ _ _ b => b
def Step.k : Step → Int | .mk k _ _ _ _ => k
def Step.to : Step → Int | .mk _ t _ _ _ => t
def Step.n : Step → Int | .mk _ _ n _ _ => n
def Step.args : Step → List Atom | .mk _ _ _ a _ => a
def Step.blocks : Step → List Block | .mk _ _ _ _ b => b
theorem Block.v_eq (b : Block) : b.v = .agg ⟨[rowV 5 (b.steps.map Step.v), i64 b.e, atomsV b.args, rowV 4 (b.blocks.map Block.v)]⟩ := by
  cases b; rw [Block.v, stepsL_eq, blocksL_eq]; rfl
theorem Step.v_eq (s : Step) : s.v = .agg ⟨[i64 s.k, i64 s.to, i64 s.n, atomsV s.args, rowV 4 (s.blocks.map Block.v)]⟩ := by
  cases s; rw [Step.v, blocksL_eq]; rfl
def Fun.v (f : Fun) : Value := .agg ⟨[i64 f.free, i64 f.locs, rowV 5 (f.body.steps.map Step.v), i64 f.body.e, atomsV f.body.args, rowV 4 (f.body.blocks.map Block.v)]⟩
def funsV (l : List Fun) : Value := rowV 6 (l.map Fun.v)

/-- Which atoms are right, in a function with so many values and locals, that is the first or not. -/
def aOk (free locs : Int) (first : Bool) (g : List Int) (a : Atom) : Bool :=
  if a.k = 1 then decide (a.n = 0 ∧ a.t = E0 ∧ -4611686018427387904 ≤ a.m ∧ a.m ≤ 4611686018427387903)
  else if a.k = 2 then decide (a.n = 0 ∧ a.m = 0)
  else if a.k = 3 then decide (a.m = 0 ∧ a.t = E0 ∧ 0 ≤ a.n ∧ a.n < locs ∧ a.n ∈ g)
  else if a.k = 4 then decide (a.n = 0 ∧ a.m = 0 ∧ a.t = E0) && !first
  else if a.k = 5 then decide (a.m = 0 ∧ a.t = E0 ∧ 0 ≤ a.n ∧ a.n < free)
  else if a.k = 6 then decide (a.m = 0 ∧ a.t = E0 ∧ 0 ≤ a.n ∧ a.n < 1024)
  else false

/-- The end of rightAtom: what was collected is the atom. -/
theorem w_100_44 {nx0 : Nat} {H0 : T OB} {nx b : Nat} {H : T OB} (a o : Atom) (ok : Bool) (r : Bool) (hA : Ag nx0 H0 nx H) (hb : IsB H b [i64 o.k, i64 o.n, i64 o.m, .string o.t] 71)
    (hr : (ok && (decide (a.k = o.k) && (decide (a.n = o.n) && (decide (a.m = o.m) && decide (a.t = o.t))))) = r) : Wq P pl X (.jump (l100_44 (eptrV a.v) (.pointer (some ⟨b, 0, none⟩)) ok H nx)) nx0 H0 (.bool r) := by
  refine Wq.jump (fun _ => rfl) ?_
  rw [q100_44]
  refine Wq.bK (fun h => ?_) (fun h => ?_)
  · subst h
    rw [rdLoad_agg hb agg_71 sz_71 (by simp), Atom.v, ld_71]
    simp only [optK_some, List.drop_zero, List.take_succ_cons, List.take_zero]
    rw [rdBin_agg plain_71]
    simp only [aggEq, cellEq, optK_some, decide_true, cond_true, eqB, bvK_bool, beqL]
    refine Wq.retE ?_ hA
    rw [← hr]
    congr 1
    simp only [beqI, Bool.and_true, Bool.true_and]
  · subst h
    exact Wq.retE (by rw [← hr]; rfl) hA

theorem bd_71_0 (n : Int) : rdBuild P 71 (some [(0, .int .i64 n)]) = some (.agg ⟨[.int .i64 n, .int .i64 0, .int .i64 0, .string E0]⟩) := rdBuild_of zero_71 (by kernel_rfl)

theorem pu_100 (fs : List Fun) (k : Nat) (a : Atom) (gv : Value) (g : List Int) (f : Fun) (hgv : IsI gv g) (hf : fs[k]? = some f) (hg : g.length < 9223372036854775807) :
    Pu 100 [funsV fs, i64 k, a.v, gv] (.bool (aOk f.free f.locs (decide (k = 0)) g a)) := Pure.of rfl fun H nx => by
  have hfv : (fs.map Fun.v)[k]? = some (.agg ⟨[i64 f.free, i64 f.locs, rowV 5 (f.body.steps.map Step.v), i64 f.body.e, atomsV f.body.args, rowV 4 (f.body.blocks.map Block.v)]⟩) := by simp [hf, Fun.v]
  rw [q100]
  refine Wq.natF' (.refl _ _) fun hA => ?_
  simp only [oneCell_int, oneCell_str, oneCell_bool, oneCell_row, oneCell_ep, oneCell_nilp, cond_true, cond_false, optK_some, ldV_int, ldV_str, ldV_bool, ldV_row, ldV_ep, ldV_nilp, rdBin_add, rdBin_sub, rdBin_mul, rdBin_lss, rdBin_leq, rdBin_gtr, rdBin_geq, rdBin_eql, rdBin_neq, rdBin_seql, rdBin_sneq, unV_not, bvK_bool, bK_true, bK_false, Bool.not_true, Bool.not_false, Bool.not_not, rdNil_ep, rdNil_ptr, oneCell_sl, ldV_sl, vEq_self, List.length_nil, Int.cast_ofNat_Int, Int.reduceEq, Int.reduceLT, Int.reduceLE, decide_true, decide_false, eq_self, Bool.and_self, fa_25_0, fa_25_1, fa_25_2, fa_25_3, fa_25_4, fa_25_5, fa_67_0, fa_67_1, fa_67_2, fa_67_3, fa_69_0, fa_69_1, fa_69_2, fa_71_0, fa_71_1, fa_71_2, fa_71_3, fa_95_0, fa_95_1, fa_95_2, fa_102_0, fa_125_0, fa_125_1, fa_125_2, fa_125_3, fa_125_4, fa_145_0, fa_145_1, fa_177_0, fa_177_1, fp_25_0, fp_25_1, fp_25_2, fp_25_3, fp_25_4, fp_25_5, fp_67_0, fp_67_1, fp_67_2, fp_67_3, fp_69_0, fp_69_1, fp_69_2, fp_71_0, fp_71_1, fp_71_2, fp_71_3, fp_102_0, fp_125_0, fp_125_1, fp_125_2, fp_125_3, fp_125_4, fp_177_0, fp_177_1, fp_177_2, fp_177_3, ld_2, ld_3, ld_9, ld_22, ld_23, ld_25, ld_30, ld_63, ld_64, ld_65, ld_67, ld_69, ld_71, ld_100, ld_125, ld_141, ld_177, len_9, len_22, lenS_22, lenN_22, len_23, lenS_23, lenN_23, len_30, lenS_30, lenN_30, len_63, lenS_63, lenN_63, len_64, lenS_64, lenN_64, len_65, lenS_65, lenN_65, len_148, lenS_148, lenN_148, len_205, lenS_205, lenN_205, beql_4, pneq_141, pneq0_141, Atom.v, bd_71_0]
  refine Wq.alloc zero_71 hA fun H1 hb1 _ hA1 => ?_
  refine Wq.store hb1 sz_71 (by simp) rfl rfl hA1 (by omega) fun H2 hb2 _ hA2 => ?_
  have hb : IsB H2 (nx + 1) [i64 a.k, i64 0, i64 0, .string E0] 71 := hb2
  simp only [oneCell_int, oneCell_str, oneCell_bool, oneCell_row, oneCell_ep, oneCell_nilp, cond_true, cond_false, optK_some, ldV_int, ldV_str, ldV_bool, ldV_row, ldV_ep, ldV_nilp, rdBin_add, rdBin_sub, rdBin_mul, rdBin_lss, rdBin_leq, rdBin_gtr, rdBin_geq, rdBin_eql, rdBin_neq, rdBin_seql, rdBin_sneq, unV_not, bvK_bool, bK_true, bK_false, Bool.not_true, Bool.not_false, Bool.not_not, rdNil_ep, rdNil_ptr, oneCell_sl, ldV_sl, vEq_self, List.length_nil, Int.cast_ofNat_Int, Int.reduceEq, Int.reduceLT, Int.reduceLE, decide_true, decide_false, eq_self, Bool.and_self, fa_25_0, fa_25_1, fa_25_2, fa_25_3, fa_25_4, fa_25_5, fa_67_0, fa_67_1, fa_67_2, fa_67_3, fa_69_0, fa_69_1, fa_69_2, fa_71_0, fa_71_1, fa_71_2, fa_71_3, fa_95_0, fa_95_1, fa_95_2, fa_102_0, fa_125_0, fa_125_1, fa_125_2, fa_125_3, fa_125_4, fa_145_0, fa_145_1, fa_177_0, fa_177_1, fp_25_0, fp_25_1, fp_25_2, fp_25_3, fp_25_4, fp_25_5, fp_67_0, fp_67_1, fp_67_2, fp_67_3, fp_69_0, fp_69_1, fp_69_2, fp_71_0, fp_71_1, fp_71_2, fp_71_3, fp_102_0, fp_125_0, fp_125_1, fp_125_2, fp_125_3, fp_125_4, fp_177_0, fp_177_1, fp_177_2, fp_177_3, ld_2, ld_3, ld_9, ld_22, ld_23, ld_25, ld_30, ld_63, ld_64, ld_65, ld_67, ld_69, ld_71, ld_100, ld_125, ld_141, ld_177, len_9, len_22, lenS_22, lenN_22, len_23, lenS_23, lenN_23, len_30, lenS_30, lenN_30, len_63, lenS_63, lenN_63, len_64, lenS_64, lenN_64, len_65, lenS_65, lenN_65, len_148, lenS_148, lenN_148, len_205, lenS_205, lenN_205, beql_4, pneq_141, pneq0_141, fp_71_1, funsV, ix_30 hfv]
  refine Wq.ite (fun h1 => ?_) (fun h1 => ?_)
  · refine Wq.put hb sz_2 rfl rfl (by simp) rfl hA2 (by omega) fun H3 hb3 _ hA3 => ?_
    have key : ∀ ok, ok = (decide (-4611686018427387904 ≤ a.m) && decide (a.m ≤ 4611686018427387903)) → Wq P pl X (.jump (l100_44 (eptrV a.v) (.pointer (some ⟨nx + 1, 0, none⟩)) ok H3 (nx + 1 + 1))) nx H (.bool (aOk f.free f.locs (decide (k = 0)) g a)) := fun ok hok =>
      w_100_44 a ⟨a.k, 0, a.m, E0⟩ ok _ hA3 hb3 (by subst hok; rw [Bool.eq_iff_iff]; simp [aOk, h1]; grind)
    refine Wq.bK (fun h => ?_) (fun h => ?_)
    · exact key _ (by rw [h, Bool.true_and])
    · exact key _ (by rw [h, Bool.false_and])
  refine Wq.ite (fun h2 => ?_) (fun h2 => ?_)
  · refine Wq.put hb sz_9 rfl rfl (by simp) rfl hA2 (by omega) fun H3 hb3 _ hA3 => ?_
    exact w_100_44 a ⟨a.k, 0, 0, a.t⟩ true _ hA3 hb3 (by rw [Bool.eq_iff_iff]; simp [aOk, h2])
  refine Wq.ite (fun h3 => ?_) (fun h3 => ?_)
  · refine Wq.put hb sz_3 rfl rfl (by simp) rfl hA2 (by omega) fun H3 hb3 _ hA3 => ?_
    refine Wq.ite (fun h => ?_) (fun h => ?_)
    · refine Wq.ite (fun h' => ?_) (fun h' => ?_)
      · refine Wq.callB (pu_124 gv g a.n hgv hg) hA3 fun H4 nx4 hA4 _ keep => ?_
        simp only [oneCell_int, oneCell_str, oneCell_bool, oneCell_row, oneCell_ep, oneCell_nilp, cond_true, cond_false, optK_some, ldV_int, ldV_str, ldV_bool, ldV_row, ldV_ep, ldV_nilp, rdBin_add, rdBin_sub, rdBin_mul, rdBin_lss, rdBin_leq, rdBin_gtr, rdBin_geq, rdBin_eql, rdBin_neq, rdBin_seql, rdBin_sneq, unV_not, bvK_bool, bK_true, bK_false, Bool.not_true, Bool.not_false, Bool.not_not, rdNil_ep, rdNil_ptr, oneCell_sl, ldV_sl, vEq_self, List.length_nil, Int.cast_ofNat_Int, Int.reduceEq, Int.reduceLT, Int.reduceLE, decide_true, decide_false, eq_self, Bool.and_self, fa_25_0, fa_25_1, fa_25_2, fa_25_3, fa_25_4, fa_25_5, fa_67_0, fa_67_1, fa_67_2, fa_67_3, fa_69_0, fa_69_1, fa_69_2, fa_71_0, fa_71_1, fa_71_2, fa_71_3, fa_95_0, fa_95_1, fa_95_2, fa_102_0, fa_125_0, fa_125_1, fa_125_2, fa_125_3, fa_125_4, fa_145_0, fa_145_1, fa_177_0, fa_177_1, fp_25_0, fp_25_1, fp_25_2, fp_25_3, fp_25_4, fp_25_5, fp_67_0, fp_67_1, fp_67_2, fp_67_3, fp_69_0, fp_69_1, fp_69_2, fp_71_0, fp_71_1, fp_71_2, fp_71_3, fp_102_0, fp_125_0, fp_125_1, fp_125_2, fp_125_3, fp_125_4, fp_177_0, fp_177_1, fp_177_2, fp_177_3, ld_2, ld_3, ld_9, ld_22, ld_23, ld_25, ld_30, ld_63, ld_64, ld_65, ld_67, ld_69, ld_71, ld_100, ld_125, ld_141, ld_177, len_9, len_22, lenS_22, lenN_22, len_23, lenS_23, lenN_23, len_30, lenS_30, lenN_30, len_63, lenS_63, lenN_63, len_64, lenS_64, lenN_64, len_65, lenS_65, lenN_65, len_148, lenS_148, lenN_148, len_205, lenS_205, lenN_205, beql_4, pneq_141, pneq0_141]
        exact w_100_44 a ⟨a.k, a.n, 0, E0⟩ _ _ hA4 (keep _ _ _ (by omega) hb3) (by rw [Bool.eq_iff_iff]; simp [aOk, h3]; grind)
      · exact w_100_44 a ⟨a.k, a.n, 0, E0⟩ _ _ hA3 hb3 (by rw [Bool.eq_iff_iff]; simp [aOk, h3]; grind)
    · exact w_100_44 a ⟨a.k, a.n, 0, E0⟩ _ _ hA3 hb3 (by rw [Bool.eq_iff_iff]; simp [aOk, h3]; grind)
  refine Wq.ite (fun h4 => ?_) (fun h4 => ?_)
  · exact w_100_44 a ⟨a.k, 0, 0, E0⟩ _ _ hA2 hb (by rw [Bool.eq_iff_iff]; simp [aOk, h4]; grind)
  refine Wq.ite (fun h5 => ?_) (fun h5 => ?_)
  · refine Wq.put hb sz_3 rfl rfl (by simp) rfl hA2 (by omega) fun H3 hb3 _ hA3 => ?_
    refine Wq.ite (fun h => ?_) (fun h => ?_)
    · exact w_100_44 a ⟨a.k, a.n, 0, E0⟩ _ _ hA3 hb3 (by rw [Bool.eq_iff_iff]; simp [aOk, h5]; grind)
    · exact w_100_44 a ⟨a.k, a.n, 0, E0⟩ _ _ hA3 hb3 (by rw [Bool.eq_iff_iff]; simp [aOk, h5]; grind)
  refine Wq.ite (fun h6 => ?_) (fun h6 => ?_)
  · refine Wq.put hb sz_3 rfl rfl (by simp) rfl hA2 (by omega) fun H3 hb3 _ hA3 => ?_
    refine Wq.ite (fun h => ?_) (fun h => ?_)
    · exact w_100_44 a ⟨a.k, a.n, 0, E0⟩ _ _ hA3 hb3 (by rw [Bool.eq_iff_iff]; simp [aOk, h6]; grind)
    · exact w_100_44 a ⟨a.k, a.n, 0, E0⟩ _ _ hA3 hb3 (by rw [Bool.eq_iff_iff]; simp [aOk, h6]; grind)
  · exact w_100_44 a ⟨a.k, 0, 0, E0⟩ false _ hA2 hb (by simp [aOk, h1, h2, h3, h4, h5, h6])
end
end Go.Proofs.YtfdgoenmdalphaaGreatDoor
