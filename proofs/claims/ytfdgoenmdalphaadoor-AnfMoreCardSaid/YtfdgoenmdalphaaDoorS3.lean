/- How many parts there are. -/
import Derived.Test.YtfdgoenmdalphaaDoorS2
namespace Go.Proofs.YtfdgoenmdalphaaDoor
open Go.Ev Go.RowKit
noncomputable section
set_option maxRecDepth 100000
set_option linter.unusedVariables false
set_option linter.unusedSimpArgs false
def aS : List Atom → Int → Int
  | [], n => n
  | a :: l, n => if n < 10000 then aS l (w (n + w ((a.t.size : Int).tdiv 8))) else n
def atomsSize (l : List Atom) : Int := aS l l.length
mutual
def bS : Block → Int → Int
  | .mk ss _ ar bs, most => lS bs most (sS ss most (w (1 + atomsSize ar)))
def sS : List Step → Int → Int → Int
  | [], most, n => n
  | s :: l, most, n => if n ≤ most then sS l most (stS s most n) else n
def stS : Step → Int → Int → Int
  | .mk _ _ _ ar bs, most, n => lS bs most (w (w (n + 1) + atomsSize ar))
def lS : List Block → Int → Int → Int
  | [], most, n => n
  | b :: l, most, n => if n ≤ most then lS l most (w (n + bS b (w (most - n)))) else n
end
def fS : List Fun → Int → Int → Int
  | [], most, n => n
  | f :: l, most, n => if n ≤ most then fS l most (w (w (n + 1) + bS f.body (w (most - n)))) else n
theorem bS_eq (b : Block) (most : Int) : bS b most = lS b.blocks most (sS b.steps most (w (1 + atomsSize b.args))) := by cases b; rw [bS]; rfl
theorem stS_eq (s : Step) (most n : Int) : stS s most n = lS s.blocks most (w (w (n + 1) + atomsSize s.args)) := by cases s; rw [stS]; rfl
/-- Every list in it is short. -/
abbrev big : Nat := 1125899906842624
def aSm (l : List Atom) : Prop := l.length < big ∧ ∀ a, a ∈ l → a.t.size < big
mutual
def bSm : Block → Prop
  | .mk ss _ ar bs => ss.length < big ∧ aSm ar ∧ bs.length < big ∧ sSm ss ∧ lSm bs
def sSm : List Step → Prop
  | [] => True
  | s :: l => stSm s ∧ sSm l
def stSm : Step → Prop
  | .mk _ _ _ ar bs => aSm ar ∧ bs.length < big ∧ lSm bs
def lSm : List Block → Prop
  | [] => True
  | b :: l => bSm b ∧ lSm l
end
theorem sSm_iff (l : List Step) : sSm l ↔ ∀ s, s ∈ l → stSm s := by
  induction l with
  | nil => simp [sSm]
  | cons s l ih => simp [sSm, ih]
theorem lSm_iff (l : List Block) : lSm l ↔ ∀ s, s ∈ l → bSm s := by
  induction l with
  | nil => simp [lSm]
  | cons s l ih => simp [lSm, ih]
theorem bSm_iff (b : Block) : bSm b ↔ b.steps.length < big ∧ aSm b.args ∧ b.blocks.length < big ∧ (∀ s, s ∈ b.steps → stSm s) ∧ (∀ c, c ∈ b.blocks → bSm c) := by
  cases b; rw [bSm, sSm_iff, lSm_iff]; rfl
theorem stSm_iff (s : Step) : stSm s ↔ aSm s.args ∧ s.blocks.length < big ∧ (∀ c, c ∈ s.blocks → bSm c) := by
  cases s; rw [stSm, lSm_iff]; rfl
/-- What holds of a block when it holds of those in it. -/
theorem Block.ind {p : Block → Prop} (h : ∀ b : Block, (∀ s, s ∈ b.steps → ∀ c, c ∈ s.blocks → p c) → (∀ c, c ∈ b.blocks → p c) → p b) (b : Block) : p b :=
  Block.rec (motive_1 := p) (motive_2 := fun s => ∀ c, c ∈ s.blocks → p c) (motive_3 := fun l => ∀ s, s ∈ l → ∀ c, c ∈ s.blocks → p c) (motive_4 := fun l => ∀ c, c ∈ l → p c)
    (fun ss e ar bs h1 h2 => h _ h1 h2) (fun k to n ar bs h1 => h1)
    (fun s hs => nomatch hs) (fun s l h1 h2 t ht => (List.mem_cons.1 ht).elim (fun e => e ▸ h1) (h2 t))
    (fun s hs => nomatch hs) (fun s l h1 h2 t ht => (List.mem_cons.1 ht).elim (fun e => e ▸ h1) (h2 t)) b

theorem pu_17 (l : List Atom) (hl : aSm l) : Pu 17 [atomsV l] (i64 (atomsSize l)) := Pure.of rfl fun H nx => by
  rw [q17]
  simp only [oneCell_int, oneCell_str, oneCell_bool, oneCell_row, oneCell_ep, oneCell_nilp, cond_true, cond_false, optK_some, ldV_int, ldV_str, ldV_bool, ldV_row, ldV_ep, ldV_nilp, rdBin_add, rdBin_sub, rdBin_mul, rdBin_lss, rdBin_leq, rdBin_gtr, rdBin_geq, rdBin_eql, rdBin_neq, rdBin_seql, rdBin_sneq, unV_not, bvK_bool, bK_true, bK_false, Bool.not_true, Bool.not_false, Bool.not_not, rdNil_ep, rdNil_ptr, oneCell_sl, ldV_sl, vEq_self, List.length_nil, Int.cast_ofNat_Int, Int.reduceEq, Int.reduceLT, Int.reduceLE, decide_true, decide_false, eq_self, Bool.and_self, fa_26_0, fa_26_1, fa_26_2, fa_26_3, fa_31_0, fa_31_1, fa_31_2, fa_31_3, fa_33_0, fa_33_1, fa_33_2, fa_43_0, fa_43_1, fa_43_2, fa_43_3, fa_43_4, fa_43_5, fa_58_0, fa_58_1, fa_58_2, fa_62_0, fa_62_1, fa_62_2, fa_62_3, fa_62_4, fa_101_0, fa_101_1, fp_26_0, fp_26_1, fp_26_2, fp_26_3, fp_31_0, fp_31_1, fp_31_2, fp_31_3, fp_33_0, fp_33_1, fp_33_2, fp_43_0, fp_43_1, fp_43_2, fp_43_3, fp_43_4, fp_43_5, fp_62_0, fp_62_1, fp_62_2, fp_62_3, fp_62_4, ld_2, ld_3, ld_9, ld_22, ld_26, ld_27, ld_28, ld_29, ld_31, ld_33, ld_40, ld_41, ld_43, ld_62, ld_97, len_9, len_22, lenS_22, lenN_22, len_27, lenS_27, lenN_27, len_28, lenS_28, lenN_28, len_29, lenS_29, lenN_29, len_40, lenS_40, lenN_40, len_41, lenS_41, lenN_41, pneq_97, pneq0_97, atomsV, List.length_map]
  refine Wq.each l (fun i n H nx => .jump (l17_9 (atomsV l) (i64 n) (i64 i) H nx)) (fun l n => i64 (aS l n)) (fun n H1 nx1 hA => ?_) (fun i a t n H1 nx1 hg hi ht hA ih => ?_) _ H nx (.refl _ _)
  · refine Wq.jump (fun _ => rfl) ?_
    rw [q17_9]
    simp only [oneCell_int, oneCell_str, oneCell_bool, oneCell_row, oneCell_ep, oneCell_nilp, cond_true, cond_false, optK_some, ldV_int, ldV_str, ldV_bool, ldV_row, ldV_ep, ldV_nilp, rdBin_add, rdBin_sub, rdBin_mul, rdBin_lss, rdBin_leq, rdBin_gtr, rdBin_geq, rdBin_eql, rdBin_neq, rdBin_seql, rdBin_sneq, unV_not, bvK_bool, bK_true, bK_false, Bool.not_true, Bool.not_false, Bool.not_not, rdNil_ep, rdNil_ptr, oneCell_sl, ldV_sl, vEq_self, List.length_nil, Int.cast_ofNat_Int, Int.reduceEq, Int.reduceLT, Int.reduceLE, decide_true, decide_false, eq_self, Bool.and_self, fa_26_0, fa_26_1, fa_26_2, fa_26_3, fa_31_0, fa_31_1, fa_31_2, fa_31_3, fa_33_0, fa_33_1, fa_33_2, fa_43_0, fa_43_1, fa_43_2, fa_43_3, fa_43_4, fa_43_5, fa_58_0, fa_58_1, fa_58_2, fa_62_0, fa_62_1, fa_62_2, fa_62_3, fa_62_4, fa_101_0, fa_101_1, fp_26_0, fp_26_1, fp_26_2, fp_26_3, fp_31_0, fp_31_1, fp_31_2, fp_31_3, fp_33_0, fp_33_1, fp_33_2, fp_43_0, fp_43_1, fp_43_2, fp_43_3, fp_43_4, fp_43_5, fp_62_0, fp_62_1, fp_62_2, fp_62_3, fp_62_4, ld_2, ld_3, ld_9, ld_22, ld_26, ld_27, ld_28, ld_29, ld_31, ld_33, ld_40, ld_41, ld_43, ld_62, ld_97, len_9, len_22, lenS_22, lenN_22, len_27, lenS_27, lenN_27, len_28, lenS_28, lenN_28, len_29, lenS_29, lenN_29, len_40, lenS_40, lenN_40, len_41, lenS_41, lenN_41, pneq_97, pneq0_97, atomsV, List.length_map, not_lt_len]
    exact Wq.retE (by rw [aS]) hA
  · refine Wq.jump (fun _ => rfl) ?_
    rw [q17_9]
    have hg' : (l.map Atom.v)[i]? = some (.agg ⟨[i64 a.k, i64 a.n, i64 a.m, .string a.t]⟩) := by simp [hg]
    have hb : big = 1125899906842624 := rfl
    simp only [oneCell_int, oneCell_str, oneCell_bool, oneCell_row, oneCell_ep, oneCell_nilp, cond_true, cond_false, optK_some, ldV_int, ldV_str, ldV_bool, ldV_row, ldV_ep, ldV_nilp, rdBin_add, rdBin_sub, rdBin_mul, rdBin_lss, rdBin_leq, rdBin_gtr, rdBin_geq, rdBin_eql, rdBin_neq, rdBin_seql, rdBin_sneq, unV_not, bvK_bool, bK_true, bK_false, Bool.not_true, Bool.not_false, Bool.not_not, rdNil_ep, rdNil_ptr, oneCell_sl, ldV_sl, vEq_self, List.length_nil, Int.cast_ofNat_Int, Int.reduceEq, Int.reduceLT, Int.reduceLE, decide_true, decide_false, eq_self, Bool.and_self, fa_26_0, fa_26_1, fa_26_2, fa_26_3, fa_31_0, fa_31_1, fa_31_2, fa_31_3, fa_33_0, fa_33_1, fa_33_2, fa_43_0, fa_43_1, fa_43_2, fa_43_3, fa_43_4, fa_43_5, fa_58_0, fa_58_1, fa_58_2, fa_62_0, fa_62_1, fa_62_2, fa_62_3, fa_62_4, fa_101_0, fa_101_1, fp_26_0, fp_26_1, fp_26_2, fp_26_3, fp_31_0, fp_31_1, fp_31_2, fp_31_3, fp_33_0, fp_33_1, fp_33_2, fp_43_0, fp_43_1, fp_43_2, fp_43_3, fp_43_4, fp_43_5, fp_62_0, fp_62_1, fp_62_2, fp_62_3, fp_62_4, ld_2, ld_3, ld_9, ld_22, ld_26, ld_27, ld_28, ld_29, ld_31, ld_33, ld_40, ld_41, ld_43, ld_62, ld_97, len_9, len_22, lenS_22, lenN_22, len_27, lenS_27, lenN_27, len_28, lenS_28, lenN_28, len_29, lenS_29, lenN_29, len_40, lenS_40, lenN_40, len_41, lenS_41, lenN_41, pneq_97, pneq0_97, atomsV, List.length_map, is_lt_len hi, ix_27 hg', wrap_succ (show i < 9223372036854775807 by have := hl.1; omega), rdBin_quo (b := 8) _ _ _ _ (by omega)]
    refine Wq.ite (fun h => ?_) (fun h => ?_)
    · rw [aS, if_pos h]; exact ih _ _ _ hA
    · exact Wq.retE (by rw [aS, if_neg h]) hA

abbrev Block.cells (b : Block) : Value := .agg ⟨[rowV 5 (b.steps.map Step.v), i64 b.e, atomsV b.args, rowV 4 (b.blocks.map Block.v)]⟩
abbrev Step.cells (s : Step) : Value := .agg ⟨[i64 s.k, i64 s.to, i64 s.n, atomsV s.args, rowV 4 (s.blocks.map Block.v)]⟩
theorem pu_7 (b : Block) : ∀ most, bSm b → Pu 7 [b.v, i64 most] (i64 (bS b most)) := by
  refine Block.ind (p := fun b => ∀ most, bSm b → Pu 7 [b.v, i64 most] (i64 (bS b most))) (fun b hs hb most hsm => ?_) b
  rw [bSm_iff] at hsm
  obtain ⟨h1, h2, h3, h4, h5⟩ := hsm
  have hbig : big = 1125899906842624 := rfl
  rw [b.v_eq]
  refine Pure.of rfl fun H nx => ?_
  rw [q7]
  refine Wq.natF' (.refl _ _) fun hA => ?_
  simp only [oneCell_int, oneCell_str, oneCell_bool, oneCell_row, oneCell_ep, oneCell_nilp, cond_true, cond_false, optK_some, ldV_int, ldV_str, ldV_bool, ldV_row, ldV_ep, ldV_nilp, rdBin_add, rdBin_sub, rdBin_mul, rdBin_lss, rdBin_leq, rdBin_gtr, rdBin_geq, rdBin_eql, rdBin_neq, rdBin_seql, rdBin_sneq, unV_not, bvK_bool, bK_true, bK_false, Bool.not_true, Bool.not_false, Bool.not_not, rdNil_ep, rdNil_ptr, oneCell_sl, ldV_sl, vEq_self, List.length_nil, Int.cast_ofNat_Int, Int.reduceEq, Int.reduceLT, Int.reduceLE, decide_true, decide_false, eq_self, Bool.and_self, fa_26_0, fa_26_1, fa_26_2, fa_26_3, fa_31_0, fa_31_1, fa_31_2, fa_31_3, fa_33_0, fa_33_1, fa_33_2, fa_43_0, fa_43_1, fa_43_2, fa_43_3, fa_43_4, fa_43_5, fa_58_0, fa_58_1, fa_58_2, fa_62_0, fa_62_1, fa_62_2, fa_62_3, fa_62_4, fa_101_0, fa_101_1, fp_26_0, fp_26_1, fp_26_2, fp_26_3, fp_31_0, fp_31_1, fp_31_2, fp_31_3, fp_33_0, fp_33_1, fp_33_2, fp_43_0, fp_43_1, fp_43_2, fp_43_3, fp_43_4, fp_43_5, fp_62_0, fp_62_1, fp_62_2, fp_62_3, fp_62_4, ld_2, ld_3, ld_9, ld_22, ld_26, ld_27, ld_28, ld_29, ld_31, ld_33, ld_40, ld_41, ld_43, ld_62, ld_97, len_9, len_22, lenS_22, lenN_22, len_27, lenS_27, lenN_27, len_28, lenS_28, lenN_28, len_29, lenS_29, lenN_29, len_40, lenS_40, lenN_40, len_41, lenS_41, lenN_41, pneq_97, pneq0_97, atomsV]
  refine Wq.call (pu_17 b.args h2) hA fun H1 nx1 hA1 => ?_
  simp only [oneCell_int, oneCell_str, oneCell_bool, oneCell_row, oneCell_ep, oneCell_nilp, cond_true, cond_false, optK_some, ldV_int, ldV_str, ldV_bool, ldV_row, ldV_ep, ldV_nilp, rdBin_add, rdBin_sub, rdBin_mul, rdBin_lss, rdBin_leq, rdBin_gtr, rdBin_geq, rdBin_eql, rdBin_neq, rdBin_seql, rdBin_sneq, unV_not, bvK_bool, bK_true, bK_false, Bool.not_true, Bool.not_false, Bool.not_not, rdNil_ep, rdNil_ptr, oneCell_sl, ldV_sl, vEq_self, List.length_nil, Int.cast_ofNat_Int, Int.reduceEq, Int.reduceLT, Int.reduceLE, decide_true, decide_false, eq_self, Bool.and_self, fa_26_0, fa_26_1, fa_26_2, fa_26_3, fa_31_0, fa_31_1, fa_31_2, fa_31_3, fa_33_0, fa_33_1, fa_33_2, fa_43_0, fa_43_1, fa_43_2, fa_43_3, fa_43_4, fa_43_5, fa_58_0, fa_58_1, fa_58_2, fa_62_0, fa_62_1, fa_62_2, fa_62_3, fa_62_4, fa_101_0, fa_101_1, fp_26_0, fp_26_1, fp_26_2, fp_26_3, fp_31_0, fp_31_1, fp_31_2, fp_31_3, fp_33_0, fp_33_1, fp_33_2, fp_43_0, fp_43_1, fp_43_2, fp_43_3, fp_43_4, fp_43_5, fp_62_0, fp_62_1, fp_62_2, fp_62_3, fp_62_4, ld_2, ld_3, ld_9, ld_22, ld_26, ld_27, ld_28, ld_29, ld_31, ld_33, ld_40, ld_41, ld_43, ld_62, ld_97, len_9, len_22, lenS_22, lenN_22, len_27, lenS_27, lenN_27, len_28, lenS_28, lenN_28, len_29, lenS_29, lenN_29, len_40, lenS_40, lenN_40, len_41, lenS_41, lenN_41, pneq_97, pneq0_97]
  -- the blocks at the end
  have L3 : ∀ n H2 nx2, Ag nx H nx2 H2 → Wq P pl X (.jump (l7_25 (i64 most) (eptrV b.cells) (i64 n) (i64 0) H2 nx2)) nx H (i64 (lS b.blocks most n)) := by
    intro n H2 nx2 hA2
    refine Wq.each b.blocks (fun i n H2 nx2 => .jump (l7_25 (i64 most) (eptrV b.cells) (i64 n) (i64 i) H2 nx2)) (fun l n => i64 (lS l most n)) (fun n H1 nx1 hA => ?_) (fun i c t n H1 nx1 hg hi ht hA ih => ?_) n H2 nx2 hA2
    · refine Wq.jmp (q7_25 ..) (fun _ => rfl) ?_
      simp only [oneCell_int, oneCell_str, oneCell_bool, oneCell_row, oneCell_ep, oneCell_nilp, cond_true, cond_false, optK_some, ldV_int, ldV_str, ldV_bool, ldV_row, ldV_ep, ldV_nilp, rdBin_add, rdBin_sub, rdBin_mul, rdBin_lss, rdBin_leq, rdBin_gtr, rdBin_geq, rdBin_eql, rdBin_neq, rdBin_seql, rdBin_sneq, unV_not, bvK_bool, bK_true, bK_false, Bool.not_true, Bool.not_false, Bool.not_not, rdNil_ep, rdNil_ptr, oneCell_sl, ldV_sl, vEq_self, List.length_nil, Int.cast_ofNat_Int, Int.reduceEq, Int.reduceLT, Int.reduceLE, decide_true, decide_false, eq_self, Bool.and_self, fa_26_0, fa_26_1, fa_26_2, fa_26_3, fa_31_0, fa_31_1, fa_31_2, fa_31_3, fa_33_0, fa_33_1, fa_33_2, fa_43_0, fa_43_1, fa_43_2, fa_43_3, fa_43_4, fa_43_5, fa_58_0, fa_58_1, fa_58_2, fa_62_0, fa_62_1, fa_62_2, fa_62_3, fa_62_4, fa_101_0, fa_101_1, fp_26_0, fp_26_1, fp_26_2, fp_26_3, fp_31_0, fp_31_1, fp_31_2, fp_31_3, fp_33_0, fp_33_1, fp_33_2, fp_43_0, fp_43_1, fp_43_2, fp_43_3, fp_43_4, fp_43_5, fp_62_0, fp_62_1, fp_62_2, fp_62_3, fp_62_4, ld_2, ld_3, ld_9, ld_22, ld_26, ld_27, ld_28, ld_29, ld_31, ld_33, ld_40, ld_41, ld_43, ld_62, ld_97, len_9, len_22, lenS_22, lenN_22, len_27, lenS_27, lenN_27, len_28, lenS_28, lenN_28, len_29, lenS_29, lenN_29, len_40, lenS_40, lenN_40, len_41, lenS_41, lenN_41, pneq_97, pneq0_97, List.length_map, not_lt_len]
      exact Wq.retE (by rw [lS]) hA
    · refine Wq.jmp (q7_25 ..) (fun _ => rfl) ?_
      have hg' : (b.blocks.map Block.v)[i]? = some c.cells := by simp [hg, c.v_eq]
      have hc : c ∈ b.blocks := List.mem_of_getElem? hg
      simp only [oneCell_int, oneCell_str, oneCell_bool, oneCell_row, oneCell_ep, oneCell_nilp, cond_true, cond_false, optK_some, ldV_int, ldV_str, ldV_bool, ldV_row, ldV_ep, ldV_nilp, rdBin_add, rdBin_sub, rdBin_mul, rdBin_lss, rdBin_leq, rdBin_gtr, rdBin_geq, rdBin_eql, rdBin_neq, rdBin_seql, rdBin_sneq, unV_not, bvK_bool, bK_true, bK_false, Bool.not_true, Bool.not_false, Bool.not_not, rdNil_ep, rdNil_ptr, oneCell_sl, ldV_sl, vEq_self, List.length_nil, Int.cast_ofNat_Int, Int.reduceEq, Int.reduceLT, Int.reduceLE, decide_true, decide_false, eq_self, Bool.and_self, fa_26_0, fa_26_1, fa_26_2, fa_26_3, fa_31_0, fa_31_1, fa_31_2, fa_31_3, fa_33_0, fa_33_1, fa_33_2, fa_43_0, fa_43_1, fa_43_2, fa_43_3, fa_43_4, fa_43_5, fa_58_0, fa_58_1, fa_58_2, fa_62_0, fa_62_1, fa_62_2, fa_62_3, fa_62_4, fa_101_0, fa_101_1, fp_26_0, fp_26_1, fp_26_2, fp_26_3, fp_31_0, fp_31_1, fp_31_2, fp_31_3, fp_33_0, fp_33_1, fp_33_2, fp_43_0, fp_43_1, fp_43_2, fp_43_3, fp_43_4, fp_43_5, fp_62_0, fp_62_1, fp_62_2, fp_62_3, fp_62_4, ld_2, ld_3, ld_9, ld_22, ld_26, ld_27, ld_28, ld_29, ld_31, ld_33, ld_40, ld_41, ld_43, ld_62, ld_97, len_9, len_22, lenS_22, lenN_22, len_27, lenS_27, lenN_27, len_28, lenS_28, lenN_28, len_29, lenS_29, lenN_29, len_40, lenS_40, lenN_40, len_41, lenS_41, lenN_41, pneq_97, pneq0_97, List.length_map, is_lt_len hi, ix_29 hg', wrap_succ (show i < 9223372036854775807 by omega)]
      refine Wq.ite (fun h => ?_) (fun h => ?_)
      · have hp := hb c hc (w (most - n)) (h5 c hc)
        rw [c.v_eq] at hp
        refine Wq.call hp hA fun H3 nx3 hA3 => ?_
        simp only [oneCell_int, oneCell_str, oneCell_bool, oneCell_row, oneCell_ep, oneCell_nilp, cond_true, cond_false, optK_some, ldV_int, ldV_str, ldV_bool, ldV_row, ldV_ep, ldV_nilp, rdBin_add, rdBin_sub, rdBin_mul, rdBin_lss, rdBin_leq, rdBin_gtr, rdBin_geq, rdBin_eql, rdBin_neq, rdBin_seql, rdBin_sneq, unV_not, bvK_bool, bK_true, bK_false, Bool.not_true, Bool.not_false, Bool.not_not, rdNil_ep, rdNil_ptr, oneCell_sl, ldV_sl, vEq_self, List.length_nil, Int.cast_ofNat_Int, Int.reduceEq, Int.reduceLT, Int.reduceLE, decide_true, decide_false, eq_self, Bool.and_self, fa_26_0, fa_26_1, fa_26_2, fa_26_3, fa_31_0, fa_31_1, fa_31_2, fa_31_3, fa_33_0, fa_33_1, fa_33_2, fa_43_0, fa_43_1, fa_43_2, fa_43_3, fa_43_4, fa_43_5, fa_58_0, fa_58_1, fa_58_2, fa_62_0, fa_62_1, fa_62_2, fa_62_3, fa_62_4, fa_101_0, fa_101_1, fp_26_0, fp_26_1, fp_26_2, fp_26_3, fp_31_0, fp_31_1, fp_31_2, fp_31_3, fp_33_0, fp_33_1, fp_33_2, fp_43_0, fp_43_1, fp_43_2, fp_43_3, fp_43_4, fp_43_5, fp_62_0, fp_62_1, fp_62_2, fp_62_3, fp_62_4, ld_2, ld_3, ld_9, ld_22, ld_26, ld_27, ld_28, ld_29, ld_31, ld_33, ld_40, ld_41, ld_43, ld_62, ld_97, len_9, len_22, lenS_22, lenN_22, len_27, lenS_27, lenN_27, len_28, lenS_28, lenN_28, len_29, lenS_29, lenN_29, len_40, lenS_40, lenN_40, len_41, lenS_41, lenN_41, pneq_97, pneq0_97]
        rw [lS, if_pos h]
        exact ih _ _ _ hA3
      · exact Wq.retE (by rw [lS, if_neg h]) hA
  rw [bS_eq]
  refine Wq.each b.steps (fun i n H2 nx2 => .jump (l7_9 (i64 most) (eptrV b.cells) (i64 n) (i64 i) H2 nx2)) (fun l n => i64 (lS b.blocks most (sS l most n))) (fun n H1 nx1 hA => ?_) (fun i s t n H1 nx1 hg hi ht hA ih => ?_) _ _ _ hA1
  · refine Wq.jmp (q7_9 ..) (fun _ => rfl) ?_
    simp only [oneCell_int, oneCell_str, oneCell_bool, oneCell_row, oneCell_ep, oneCell_nilp, cond_true, cond_false, optK_some, ldV_int, ldV_str, ldV_bool, ldV_row, ldV_ep, ldV_nilp, rdBin_add, rdBin_sub, rdBin_mul, rdBin_lss, rdBin_leq, rdBin_gtr, rdBin_geq, rdBin_eql, rdBin_neq, rdBin_seql, rdBin_sneq, unV_not, bvK_bool, bK_true, bK_false, Bool.not_true, Bool.not_false, Bool.not_not, rdNil_ep, rdNil_ptr, oneCell_sl, ldV_sl, vEq_self, List.length_nil, Int.cast_ofNat_Int, Int.reduceEq, Int.reduceLT, Int.reduceLE, decide_true, decide_false, eq_self, Bool.and_self, fa_26_0, fa_26_1, fa_26_2, fa_26_3, fa_31_0, fa_31_1, fa_31_2, fa_31_3, fa_33_0, fa_33_1, fa_33_2, fa_43_0, fa_43_1, fa_43_2, fa_43_3, fa_43_4, fa_43_5, fa_58_0, fa_58_1, fa_58_2, fa_62_0, fa_62_1, fa_62_2, fa_62_3, fa_62_4, fa_101_0, fa_101_1, fp_26_0, fp_26_1, fp_26_2, fp_26_3, fp_31_0, fp_31_1, fp_31_2, fp_31_3, fp_33_0, fp_33_1, fp_33_2, fp_43_0, fp_43_1, fp_43_2, fp_43_3, fp_43_4, fp_43_5, fp_62_0, fp_62_1, fp_62_2, fp_62_3, fp_62_4, ld_2, ld_3, ld_9, ld_22, ld_26, ld_27, ld_28, ld_29, ld_31, ld_33, ld_40, ld_41, ld_43, ld_62, ld_97, len_9, len_22, lenS_22, lenN_22, len_27, lenS_27, lenN_27, len_28, lenS_28, lenN_28, len_29, lenS_29, lenN_29, len_40, lenS_40, lenN_40, len_41, lenS_41, lenN_41, pneq_97, pneq0_97, List.length_map, not_lt_len]
    rw [sS]
    exact L3 _ _ _ hA
  · have hg' : (b.steps.map Step.v)[i]? = some s.cells := by simp [hg, s.v_eq]
    have hc : s ∈ b.steps := List.mem_of_getElem? hg
    have hss := h4 s hc
    rw [stSm_iff] at hss
    refine Wq.jmp (q7_9 ..) (fun _ => rfl) ?_
    simp only [oneCell_int, oneCell_str, oneCell_bool, oneCell_row, oneCell_ep, oneCell_nilp, cond_true, cond_false, optK_some, ldV_int, ldV_str, ldV_bool, ldV_row, ldV_ep, ldV_nilp, rdBin_add, rdBin_sub, rdBin_mul, rdBin_lss, rdBin_leq, rdBin_gtr, rdBin_geq, rdBin_eql, rdBin_neq, rdBin_seql, rdBin_sneq, unV_not, bvK_bool, bK_true, bK_false, Bool.not_true, Bool.not_false, Bool.not_not, rdNil_ep, rdNil_ptr, oneCell_sl, ldV_sl, vEq_self, List.length_nil, Int.cast_ofNat_Int, Int.reduceEq, Int.reduceLT, Int.reduceLE, decide_true, decide_false, eq_self, Bool.and_self, fa_26_0, fa_26_1, fa_26_2, fa_26_3, fa_31_0, fa_31_1, fa_31_2, fa_31_3, fa_33_0, fa_33_1, fa_33_2, fa_43_0, fa_43_1, fa_43_2, fa_43_3, fa_43_4, fa_43_5, fa_58_0, fa_58_1, fa_58_2, fa_62_0, fa_62_1, fa_62_2, fa_62_3, fa_62_4, fa_101_0, fa_101_1, fp_26_0, fp_26_1, fp_26_2, fp_26_3, fp_31_0, fp_31_1, fp_31_2, fp_31_3, fp_33_0, fp_33_1, fp_33_2, fp_43_0, fp_43_1, fp_43_2, fp_43_3, fp_43_4, fp_43_5, fp_62_0, fp_62_1, fp_62_2, fp_62_3, fp_62_4, ld_2, ld_3, ld_9, ld_22, ld_26, ld_27, ld_28, ld_29, ld_31, ld_33, ld_40, ld_41, ld_43, ld_62, ld_97, len_9, len_22, lenS_22, lenN_22, len_27, lenS_27, lenN_27, len_28, lenS_28, lenN_28, len_29, lenS_29, lenN_29, len_40, lenS_40, lenN_40, len_41, lenS_41, lenN_41, pneq_97, pneq0_97, List.length_map, is_lt_len hi, ix_28 hg', atomsV]
    refine Wq.ite (fun h => ?_) (fun h => ?_)
    · refine Wq.call (pu_17 s.args hss.1) hA fun H3 nx3 hA3 => ?_
      simp only [oneCell_int, oneCell_str, oneCell_bool, oneCell_row, oneCell_ep, oneCell_nilp, cond_true, cond_false, optK_some, ldV_int, ldV_str, ldV_bool, ldV_row, ldV_ep, ldV_nilp, rdBin_add, rdBin_sub, rdBin_mul, rdBin_lss, rdBin_leq, rdBin_gtr, rdBin_geq, rdBin_eql, rdBin_neq, rdBin_seql, rdBin_sneq, unV_not, bvK_bool, bK_true, bK_false, Bool.not_true, Bool.not_false, Bool.not_not, rdNil_ep, rdNil_ptr, oneCell_sl, ldV_sl, vEq_self, List.length_nil, Int.cast_ofNat_Int, Int.reduceEq, Int.reduceLT, Int.reduceLE, decide_true, decide_false, eq_self, Bool.and_self, fa_26_0, fa_26_1, fa_26_2, fa_26_3, fa_31_0, fa_31_1, fa_31_2, fa_31_3, fa_33_0, fa_33_1, fa_33_2, fa_43_0, fa_43_1, fa_43_2, fa_43_3, fa_43_4, fa_43_5, fa_58_0, fa_58_1, fa_58_2, fa_62_0, fa_62_1, fa_62_2, fa_62_3, fa_62_4, fa_101_0, fa_101_1, fp_26_0, fp_26_1, fp_26_2, fp_26_3, fp_31_0, fp_31_1, fp_31_2, fp_31_3, fp_33_0, fp_33_1, fp_33_2, fp_43_0, fp_43_1, fp_43_2, fp_43_3, fp_43_4, fp_43_5, fp_62_0, fp_62_1, fp_62_2, fp_62_3, fp_62_4, ld_2, ld_3, ld_9, ld_22, ld_26, ld_27, ld_28, ld_29, ld_31, ld_33, ld_40, ld_41, ld_43, ld_62, ld_97, len_9, len_22, lenS_22, lenN_22, len_27, lenS_27, lenN_27, len_28, lenS_28, lenN_28, len_29, lenS_29, lenN_29, len_40, lenS_40, lenN_40, len_41, lenS_41, lenN_41, pneq_97, pneq0_97]
      rw [sS, if_pos h, stS_eq]
      refine Wq.each s.blocks (fun k n H2 nx2 => .jump (l7_17 (i64 most) (eptrV b.cells) (i64 n) (i64 i) (i64 k) H2 nx2)) (fun l n => i64 (lS b.blocks most (sS t most (lS l most n)))) (fun n H1 nx1 hA => ?_) (fun k c t n H1 nx1 hg2 hk ht hA ih2 => ?_) _ _ _ hA3
      · refine Wq.jmp (q7_17 ..) (fun _ => rfl) ?_
        simp only [oneCell_int, oneCell_str, oneCell_bool, oneCell_row, oneCell_ep, oneCell_nilp, cond_true, cond_false, optK_some, ldV_int, ldV_str, ldV_bool, ldV_row, ldV_ep, ldV_nilp, rdBin_add, rdBin_sub, rdBin_mul, rdBin_lss, rdBin_leq, rdBin_gtr, rdBin_geq, rdBin_eql, rdBin_neq, rdBin_seql, rdBin_sneq, unV_not, bvK_bool, bK_true, bK_false, Bool.not_true, Bool.not_false, Bool.not_not, rdNil_ep, rdNil_ptr, oneCell_sl, ldV_sl, vEq_self, List.length_nil, Int.cast_ofNat_Int, Int.reduceEq, Int.reduceLT, Int.reduceLE, decide_true, decide_false, eq_self, Bool.and_self, fa_26_0, fa_26_1, fa_26_2, fa_26_3, fa_31_0, fa_31_1, fa_31_2, fa_31_3, fa_33_0, fa_33_1, fa_33_2, fa_43_0, fa_43_1, fa_43_2, fa_43_3, fa_43_4, fa_43_5, fa_58_0, fa_58_1, fa_58_2, fa_62_0, fa_62_1, fa_62_2, fa_62_3, fa_62_4, fa_101_0, fa_101_1, fp_26_0, fp_26_1, fp_26_2, fp_26_3, fp_31_0, fp_31_1, fp_31_2, fp_31_3, fp_33_0, fp_33_1, fp_33_2, fp_43_0, fp_43_1, fp_43_2, fp_43_3, fp_43_4, fp_43_5, fp_62_0, fp_62_1, fp_62_2, fp_62_3, fp_62_4, ld_2, ld_3, ld_9, ld_22, ld_26, ld_27, ld_28, ld_29, ld_31, ld_33, ld_40, ld_41, ld_43, ld_62, ld_97, len_9, len_22, lenS_22, lenN_22, len_27, lenS_27, lenN_27, len_28, lenS_28, lenN_28, len_29, lenS_29, lenN_29, len_40, lenS_40, lenN_40, len_41, lenS_41, lenN_41, pneq_97, pneq0_97, List.length_map, ix_28 hg', not_lt_len, wrap_succ (show i < 9223372036854775807 by omega)]
        rw [lS]
        exact ih _ _ _ hA
      · refine Wq.jmp (q7_17 ..) (fun _ => rfl) ?_
        have hg2' : (s.blocks.map Block.v)[k]? = some c.cells := by simp [hg2, c.v_eq]
        have hc2 : c ∈ s.blocks := List.mem_of_getElem? hg2
        simp only [oneCell_int, oneCell_str, oneCell_bool, oneCell_row, oneCell_ep, oneCell_nilp, cond_true, cond_false, optK_some, ldV_int, ldV_str, ldV_bool, ldV_row, ldV_ep, ldV_nilp, rdBin_add, rdBin_sub, rdBin_mul, rdBin_lss, rdBin_leq, rdBin_gtr, rdBin_geq, rdBin_eql, rdBin_neq, rdBin_seql, rdBin_sneq, unV_not, bvK_bool, bK_true, bK_false, Bool.not_true, Bool.not_false, Bool.not_not, rdNil_ep, rdNil_ptr, oneCell_sl, ldV_sl, vEq_self, List.length_nil, Int.cast_ofNat_Int, Int.reduceEq, Int.reduceLT, Int.reduceLE, decide_true, decide_false, eq_self, Bool.and_self, fa_26_0, fa_26_1, fa_26_2, fa_26_3, fa_31_0, fa_31_1, fa_31_2, fa_31_3, fa_33_0, fa_33_1, fa_33_2, fa_43_0, fa_43_1, fa_43_2, fa_43_3, fa_43_4, fa_43_5, fa_58_0, fa_58_1, fa_58_2, fa_62_0, fa_62_1, fa_62_2, fa_62_3, fa_62_4, fa_101_0, fa_101_1, fp_26_0, fp_26_1, fp_26_2, fp_26_3, fp_31_0, fp_31_1, fp_31_2, fp_31_3, fp_33_0, fp_33_1, fp_33_2, fp_43_0, fp_43_1, fp_43_2, fp_43_3, fp_43_4, fp_43_5, fp_62_0, fp_62_1, fp_62_2, fp_62_3, fp_62_4, ld_2, ld_3, ld_9, ld_22, ld_26, ld_27, ld_28, ld_29, ld_31, ld_33, ld_40, ld_41, ld_43, ld_62, ld_97, len_9, len_22, lenS_22, lenN_22, len_27, lenS_27, lenN_27, len_28, lenS_28, lenN_28, len_29, lenS_29, lenN_29, len_40, lenS_40, lenN_40, len_41, lenS_41, lenN_41, pneq_97, pneq0_97, List.length_map, ix_28 hg', is_lt_len hk, ix_29 hg2', wrap_succ (show i < 9223372036854775807 by omega), wrap_succ (show k < 9223372036854775807 by omega)]
        refine Wq.ite (fun h' => ?_) (fun h' => ?_)
        · have hp := hs s hc c hc2 (w (most - n)) (hss.2.2 c hc2)
          rw [c.v_eq] at hp
          refine Wq.call hp hA fun H3 nx3 hA3 => ?_
          simp only [oneCell_int, oneCell_str, oneCell_bool, oneCell_row, oneCell_ep, oneCell_nilp, cond_true, cond_false, optK_some, ldV_int, ldV_str, ldV_bool, ldV_row, ldV_ep, ldV_nilp, rdBin_add, rdBin_sub, rdBin_mul, rdBin_lss, rdBin_leq, rdBin_gtr, rdBin_geq, rdBin_eql, rdBin_neq, rdBin_seql, rdBin_sneq, unV_not, bvK_bool, bK_true, bK_false, Bool.not_true, Bool.not_false, Bool.not_not, rdNil_ep, rdNil_ptr, oneCell_sl, ldV_sl, vEq_self, List.length_nil, Int.cast_ofNat_Int, Int.reduceEq, Int.reduceLT, Int.reduceLE, decide_true, decide_false, eq_self, Bool.and_self, fa_26_0, fa_26_1, fa_26_2, fa_26_3, fa_31_0, fa_31_1, fa_31_2, fa_31_3, fa_33_0, fa_33_1, fa_33_2, fa_43_0, fa_43_1, fa_43_2, fa_43_3, fa_43_4, fa_43_5, fa_58_0, fa_58_1, fa_58_2, fa_62_0, fa_62_1, fa_62_2, fa_62_3, fa_62_4, fa_101_0, fa_101_1, fp_26_0, fp_26_1, fp_26_2, fp_26_3, fp_31_0, fp_31_1, fp_31_2, fp_31_3, fp_33_0, fp_33_1, fp_33_2, fp_43_0, fp_43_1, fp_43_2, fp_43_3, fp_43_4, fp_43_5, fp_62_0, fp_62_1, fp_62_2, fp_62_3, fp_62_4, ld_2, ld_3, ld_9, ld_22, ld_26, ld_27, ld_28, ld_29, ld_31, ld_33, ld_40, ld_41, ld_43, ld_62, ld_97, len_9, len_22, lenS_22, lenN_22, len_27, lenS_27, lenN_27, len_28, lenS_28, lenN_28, len_29, lenS_29, lenN_29, len_40, lenS_40, lenN_40, len_41, lenS_41, lenN_41, pneq_97, pneq0_97]
          rw [lS, if_pos h']
          exact ih2 _ _ _ hA3
        · rw [lS, if_neg h']
          exact ih _ _ _ hA
    · rw [sS, if_neg h]
      exact L3 _ _ _ hA
theorem pu_4 (fs : List Fun) (most : Int) (hl : fs.length < big) (hs : ∀ f, f ∈ fs → bSm f.body) : Pu 4 [funsV fs, i64 most] (i64 (fS fs most 0)) := Pure.of rfl fun H nx => by
  have hbig : big = 1125899906842624 := rfl
  rw [q4]
  refine Wq.each fs (fun i n H2 nx2 => .jump (l4_9 (funsV fs) (i64 most) (i64 n) (i64 i) H2 nx2)) (fun l n => i64 (fS l most n)) (fun n H1 nx1 hA => ?_) (fun i f t n H1 nx1 hg hi ht hA ih => ?_) _ _ _ (.refl _ _)
  · refine Wq.jmp (q4_9 ..) (fun _ => rfl) ?_
    simp only [oneCell_int, oneCell_str, oneCell_bool, oneCell_row, oneCell_ep, oneCell_nilp, cond_true, cond_false, optK_some, ldV_int, ldV_str, ldV_bool, ldV_row, ldV_ep, ldV_nilp, rdBin_add, rdBin_sub, rdBin_mul, rdBin_lss, rdBin_leq, rdBin_gtr, rdBin_geq, rdBin_eql, rdBin_neq, rdBin_seql, rdBin_sneq, unV_not, bvK_bool, bK_true, bK_false, Bool.not_true, Bool.not_false, Bool.not_not, rdNil_ep, rdNil_ptr, oneCell_sl, ldV_sl, vEq_self, List.length_nil, Int.cast_ofNat_Int, Int.reduceEq, Int.reduceLT, Int.reduceLE, decide_true, decide_false, eq_self, Bool.and_self, fa_26_0, fa_26_1, fa_26_2, fa_26_3, fa_31_0, fa_31_1, fa_31_2, fa_31_3, fa_33_0, fa_33_1, fa_33_2, fa_43_0, fa_43_1, fa_43_2, fa_43_3, fa_43_4, fa_43_5, fa_58_0, fa_58_1, fa_58_2, fa_62_0, fa_62_1, fa_62_2, fa_62_3, fa_62_4, fa_101_0, fa_101_1, fp_26_0, fp_26_1, fp_26_2, fp_26_3, fp_31_0, fp_31_1, fp_31_2, fp_31_3, fp_33_0, fp_33_1, fp_33_2, fp_43_0, fp_43_1, fp_43_2, fp_43_3, fp_43_4, fp_43_5, fp_62_0, fp_62_1, fp_62_2, fp_62_3, fp_62_4, ld_2, ld_3, ld_9, ld_22, ld_26, ld_27, ld_28, ld_29, ld_31, ld_33, ld_40, ld_41, ld_43, ld_62, ld_97, len_9, len_22, lenS_22, lenN_22, len_27, lenS_27, lenN_27, len_28, lenS_28, lenN_28, len_29, lenS_29, lenN_29, len_40, lenS_40, lenN_40, len_41, lenS_41, lenN_41, pneq_97, pneq0_97, funsV, List.length_map, not_lt_len]
    exact Wq.retE (by rw [fS]) hA
  · refine Wq.jmp (q4_9 ..) (fun _ => rfl) ?_
    have hg' : (fs.map Fun.v)[i]? = some (.agg ⟨[i64 f.free, i64 f.locs, rowV 5 (f.body.steps.map Step.v), i64 f.body.e, atomsV f.body.args, rowV 4 (f.body.blocks.map Block.v)]⟩) := by simp [hg, Fun.v]
    simp only [oneCell_int, oneCell_str, oneCell_bool, oneCell_row, oneCell_ep, oneCell_nilp, cond_true, cond_false, optK_some, ldV_int, ldV_str, ldV_bool, ldV_row, ldV_ep, ldV_nilp, rdBin_add, rdBin_sub, rdBin_mul, rdBin_lss, rdBin_leq, rdBin_gtr, rdBin_geq, rdBin_eql, rdBin_neq, rdBin_seql, rdBin_sneq, unV_not, bvK_bool, bK_true, bK_false, Bool.not_true, Bool.not_false, Bool.not_not, rdNil_ep, rdNil_ptr, oneCell_sl, ldV_sl, vEq_self, List.length_nil, Int.cast_ofNat_Int, Int.reduceEq, Int.reduceLT, Int.reduceLE, decide_true, decide_false, eq_self, Bool.and_self, fa_26_0, fa_26_1, fa_26_2, fa_26_3, fa_31_0, fa_31_1, fa_31_2, fa_31_3, fa_33_0, fa_33_1, fa_33_2, fa_43_0, fa_43_1, fa_43_2, fa_43_3, fa_43_4, fa_43_5, fa_58_0, fa_58_1, fa_58_2, fa_62_0, fa_62_1, fa_62_2, fa_62_3, fa_62_4, fa_101_0, fa_101_1, fp_26_0, fp_26_1, fp_26_2, fp_26_3, fp_31_0, fp_31_1, fp_31_2, fp_31_3, fp_33_0, fp_33_1, fp_33_2, fp_43_0, fp_43_1, fp_43_2, fp_43_3, fp_43_4, fp_43_5, fp_62_0, fp_62_1, fp_62_2, fp_62_3, fp_62_4, ld_2, ld_3, ld_9, ld_22, ld_26, ld_27, ld_28, ld_29, ld_31, ld_33, ld_40, ld_41, ld_43, ld_62, ld_97, len_9, len_22, lenS_22, lenN_22, len_27, lenS_27, lenN_27, len_28, lenS_28, lenN_28, len_29, lenS_29, lenN_29, len_40, lenS_40, lenN_40, len_41, lenS_41, lenN_41, pneq_97, pneq0_97, funsV, List.length_map, is_lt_len hi, ix_22 hg', wrap_succ (show i < 9223372036854775807 by omega)]
    refine Wq.ite (fun h => ?_) (fun h => ?_)
    · have hp := pu_7 f.body (w (most - n)) (hs f (List.mem_of_getElem? hg))
      rw [f.body.v_eq] at hp
      refine Wq.call hp hA fun H3 nx3 hA3 => ?_
      simp only [oneCell_int, oneCell_str, oneCell_bool, oneCell_row, oneCell_ep, oneCell_nilp, cond_true, cond_false, optK_some, ldV_int, ldV_str, ldV_bool, ldV_row, ldV_ep, ldV_nilp, rdBin_add, rdBin_sub, rdBin_mul, rdBin_lss, rdBin_leq, rdBin_gtr, rdBin_geq, rdBin_eql, rdBin_neq, rdBin_seql, rdBin_sneq, unV_not, bvK_bool, bK_true, bK_false, Bool.not_true, Bool.not_false, Bool.not_not, rdNil_ep, rdNil_ptr, oneCell_sl, ldV_sl, vEq_self, List.length_nil, Int.cast_ofNat_Int, Int.reduceEq, Int.reduceLT, Int.reduceLE, decide_true, decide_false, eq_self, Bool.and_self, fa_26_0, fa_26_1, fa_26_2, fa_26_3, fa_31_0, fa_31_1, fa_31_2, fa_31_3, fa_33_0, fa_33_1, fa_33_2, fa_43_0, fa_43_1, fa_43_2, fa_43_3, fa_43_4, fa_43_5, fa_58_0, fa_58_1, fa_58_2, fa_62_0, fa_62_1, fa_62_2, fa_62_3, fa_62_4, fa_101_0, fa_101_1, fp_26_0, fp_26_1, fp_26_2, fp_26_3, fp_31_0, fp_31_1, fp_31_2, fp_31_3, fp_33_0, fp_33_1, fp_33_2, fp_43_0, fp_43_1, fp_43_2, fp_43_3, fp_43_4, fp_43_5, fp_62_0, fp_62_1, fp_62_2, fp_62_3, fp_62_4, ld_2, ld_3, ld_9, ld_22, ld_26, ld_27, ld_28, ld_29, ld_31, ld_33, ld_40, ld_41, ld_43, ld_62, ld_97, len_9, len_22, lenS_22, lenN_22, len_27, lenS_27, lenN_27, len_28, lenS_28, lenN_28, len_29, lenS_29, lenN_29, len_40, lenS_40, lenN_40, len_41, lenS_41, lenN_41, pneq_97, pneq0_97]
      rw [fS, if_pos h]
      exact ih _ _ _ hA3
    · exact Wq.retE (by rw [fS, if_neg h]) hA
end
end Go.Proofs.YtfdgoenmdalphaaDoor
