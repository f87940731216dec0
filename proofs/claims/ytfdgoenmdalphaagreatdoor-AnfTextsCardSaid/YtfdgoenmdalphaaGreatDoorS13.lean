/- The law of right lists: both tell the same. -/
import Derived.Test.YtfdgoenmdalphaaGreatDoorS12
namespace Go.Proofs.YtfdgoenmdalphaaGreatDoor
open Go.Ev Go.RowKit
noncomputable section
set_option maxRecDepth 100000
set_option linter.unusedVariables false
set_option linter.unusedSimpArgs false
theorem aS_b (l : List Atom) : ∀ n : Int, 0 ≤ n → (∀ a, a ∈ l → a.t.size < big) → n ≤ aS l n ∧ aS l n ≤ max n (10000 + big) := by
  have hbig : big = 1125899906842624 := rfl
  induction l with
  | nil => intro n _ _; rw [aS]; omega
  | cons a l ih =>
    intro n hn h
    have ha := h a List.mem_cons_self
    rw [aS]
    split
    · have e1 : ((a.t.size : Int).tdiv 8) = ((a.t.size / 8 : Nat) : Int) := by rw [Int.tdiv_eq_ediv_of_nonneg (by omega)]; omega
      have e2 : w ((a.t.size : Int).tdiv 8) = ((a.t.size / 8 : Nat) : Int) := by rw [e1]; exact wrap_id (by omega)
      have e3 : w (n + w ((a.t.size : Int).tdiv 8)) = n + ((a.t.size / 8 : Nat) : Int) := by rw [e2]; exact wrap_id (by omega)
      rw [e3]
      have := ih (n + ((a.t.size / 8 : Nat) : Int)) (by omega) (fun x hx => h x (List.mem_cons_of_mem _ hx))
      omega
    · omega
theorem atoms_b (l : List Atom) (h : aSm l) : 0 ≤ atomsSize l ∧ atomsSize l ≤ 10000 + big := by
  have hbig : big = 1125899906842624 := rfl
  have := aS_b l l.length (by omega) h.2
  unfold atomsSize
  have := h.1
  omega
def okB (b : Block) : Prop := bSm b → ∀ most : Int, 0 ≤ most → most ≤ 500 → 0 ≤ bS b most ∧ bS b most ≤ most + 2251799813685260 ∧ (bS b most ≤ most → bC b < bS b most)
theorem lS_b (bs : List Block) (hp : ∀ c, c ∈ bs → okB c) (hsm : ∀ c, c ∈ bs → bSm c) (most : Int) (h0 : 0 ≤ most) (h5 : most ≤ 500) : ∀ n : Int, 0 ≤ n → n ≤ 4611686018427387904 → n ≤ lS bs most n ∧ lS bs most n ≤ max n (most + 2251799813685260) ∧ (lS bs most n ≤ most → n + lC bs ≤ lS bs most n) := by
  induction bs with
  | nil => intro n _ _; rw [lS, lC]; omega
  | cons c l ih =>
    intro n hn hn2
    rw [lS, lC]
    split
    · rename_i hle
      have e1 : w (most - n) = most - n := wrap_id (by omega)
      have hc := hp c List.mem_cons_self (hsm c List.mem_cons_self) (most - n) (by omega) (by omega)
      rw [e1]
      have e2 : w (n + bS c (most - n)) = n + bS c (most - n) := wrap_id (by omega)
      rw [e2]
      have := ih (fun x hx => hp x (List.mem_cons_of_mem _ hx)) (fun x hx => hsm x (List.mem_cons_of_mem _ hx)) (n + bS c (most - n)) (by omega) (by omega)
      omega
    · omega
theorem stS_b (s : Step) (hp : ∀ c, c ∈ s.blocks → okB c) (hsm : stSm s) (most : Int) (h0 : 0 ≤ most) (h5 : most ≤ 500) (n : Int) (hn : 0 ≤ n) (hn2 : n ≤ most) : n ≤ stS s most n ∧ stS s most n ≤ most + 2251799813685260 ∧ (stS s most n ≤ most → n + sC s ≤ stS s most n) := by
  have hbig : big = 1125899906842624 := rfl
  rw [stSm_iff] at hsm
  have ha := atoms_b s.args hsm.1
  rw [stS_eq, sC_eq]
  have e1 : w (n + 1) = n + 1 := wrap_id (by omega)
  have e2 : w (w (n + 1) + atomsSize s.args) = n + 1 + atomsSize s.args := by rw [e1]; exact wrap_id (by omega)
  rw [e2]
  have := lS_b s.blocks hp hsm.2.2 most h0 h5 (n + 1 + atomsSize s.args) (by omega) (by omega)
  omega
theorem sS_b (ss : List Step) (hp : ∀ s, s ∈ ss → ∀ c, c ∈ s.blocks → okB c) (hsm : ∀ s, s ∈ ss → stSm s) (most : Int) (h0 : 0 ≤ most) (h5 : most ≤ 500) : ∀ n : Int, 0 ≤ n → n ≤ 4611686018427387904 → n ≤ sS ss most n ∧ sS ss most n ≤ max n (most + 2251799813685260) ∧ (sS ss most n ≤ most → n + ssC ss ≤ sS ss most n) := by
  induction ss with
  | nil => intro n _ _; rw [sS, ssC]; omega
  | cons s l ih =>
    intro n hn hn2
    rw [sS, ssC]
    split
    · rename_i hle
      have hc := stS_b s (hp s List.mem_cons_self) (hsm s List.mem_cons_self) most h0 h5 n hn hle
      have := ih (fun x hx => hp x (List.mem_cons_of_mem _ hx)) (fun x hx => hsm x (List.mem_cons_of_mem _ hx)) (stS s most n) (by omega) (by omega)
      omega
    · omega
theorem okB_all (b : Block) : okB b := by
  refine Block.ind (p := okB) (fun b hs hb => ?_) b
  intro hsm most h0 h5
  have hbig : big = 1125899906842624 := rfl
  rw [bSm_iff] at hsm
  have ha := atoms_b b.args hsm.2.1
  rw [bS_eq, bC_eq]
  have e1 : w (1 + atomsSize b.args) = 1 + atomsSize b.args := wrap_id (by omega)
  rw [e1]
  have h1 := sS_b b.steps hs hsm.2.2.2.1 most h0 h5 (1 + atomsSize b.args) (by omega) (by omega)
  have h2 := lS_b b.blocks hb hsm.2.2.2.2 most h0 h5 (sS b.steps most (1 + atomsSize b.args)) (by omega) (by omega)
  omega
theorem fS_b (fs : List Fun) (hsm : ∀ f, f ∈ fs → bSm f.body) : ∀ n : Int, 0 ≤ n → n ≤ 4611686018427387904 → n ≤ fS fs 500 n ∧ (fS fs 500 n ≤ 500 → ∀ f, f ∈ fs → (bC f.body : Int) ≤ 500) := by
  induction fs with
  | nil => intro n _ _; rw [fS]; exact ⟨by omega, fun _ f hf => nomatch hf⟩
  | cons f l ih =>
    intro n hn hn2
    rw [fS]
    split
    · rename_i hle
      have e1 : w (500 - n) = 500 - n := wrap_id (by omega)
      have e2 : w (n + 1) = n + 1 := wrap_id (by omega)
      have hc := okB_all f.body (hsm f List.mem_cons_self) (500 - n) (by omega) (by omega)
      have e3 : w (w (n + 1) + bS f.body (w (500 - n))) = n + 1 + bS f.body (500 - n) := by rw [e1, e2]; exact wrap_id (by omega)
      rw [e3]
      have := ih (fun x hx => hsm x (List.mem_cons_of_mem _ hx)) (n + 1 + bS f.body (500 - n)) (by omega) (by omega)
      refine ⟨by omega, fun h x hx => ?_⟩
      rcases List.mem_cons.1 hx with rfl | hx
      · omega
      · exact this.2 h x hx
    · exact ⟨by omega, fun h => by omega⟩

def fOk (fs : List Fun) (k : Nat) (f : Fun) : Bool := !decide (f.free < 0 ∨ f.locs < 0 ∨ (k = 0 ∧ f.free ≠ 0)) && bOk fs f.free f.locs (decide (k = 0)) false [] f.body
def rgt (fs : List Fun) : Nat → List Fun → Bool
  | k, [] => true
  | k, f :: l => fOk fs k f && rgt fs (k + 1) l
/-- Whether functions are right. -/
def right (fs : List Fun) : Bool := rgt fs 0 fs && decide (0 < fs.length)
theorem decN0 (k : Nat) : decide ((k : Int) = 0) = decide (k = 0) := by rw [decide_eq_decide]; omega

theorem pu_12 (fs : List Fun) (hl : fs.length < big) (hs : ∀ f, f ∈ fs → bSm f.body) (hc : ∀ f, f ∈ fs → bC f.body < 1048576) : Pu 12 [funsV fs] (.bool (right fs)) := Pure.of rfl fun H nx => by
  have hbig : big = 1125899906842624 := rfl
  rw [q12]
  refine Wq.up fs.length (fun i (_ : Unit) H nx => .jump (l12_7 (funsV fs) (i64 i) H nx)) (fun i _ => .bool (rgt fs i (fs.drop i) && decide (0 < fs.length))) (fun _ H1 nx1 hA => ?_) (fun i _ H1 nx1 hi ih hA => ?_) 0 () H nx (Nat.zero_le _) (.refl _ _)
  · refine Wq.jmp (q12_7 ..) (fun _ => rfl) ?_
    simp only [oneCell_int, oneCell_str, oneCell_bool, oneCell_row, oneCell_ep, oneCell_nilp, cond_true, cond_false, optK_some, ldV_int, ldV_str, ldV_bool, ldV_row, ldV_ep, ldV_nilp, rdBin_add, rdBin_sub, rdBin_mul, rdBin_lss, rdBin_leq, rdBin_gtr, rdBin_geq, rdBin_eql, rdBin_neq, rdBin_seql, rdBin_sneq, unV_not, bvK_bool, bK_true, bK_false, Bool.not_true, Bool.not_false, Bool.not_not, rdNil_ep, rdNil_ptr, oneCell_sl, ldV_sl, vEq_self, List.length_nil, Int.cast_ofNat_Int, Int.reduceEq, Int.reduceLT, Int.reduceLE, decide_true, decide_false, eq_self, Bool.and_self, fa_25_0, fa_25_1, fa_25_2, fa_25_3, fa_25_4, fa_25_5, fa_67_0, fa_67_1, fa_67_2, fa_67_3, fa_69_0, fa_69_1, fa_69_2, fa_71_0, fa_71_1, fa_71_2, fa_71_3, fa_95_0, fa_95_1, fa_95_2, fa_102_0, fa_125_0, fa_125_1, fa_125_2, fa_125_3, fa_125_4, fa_145_0, fa_145_1, fa_177_0, fa_177_1, fp_25_0, fp_25_1, fp_25_2, fp_25_3, fp_25_4, fp_25_5, fp_67_0, fp_67_1, fp_67_2, fp_67_3, fp_69_0, fp_69_1, fp_69_2, fp_71_0, fp_71_1, fp_71_2, fp_71_3, fp_102_0, fp_125_0, fp_125_1, fp_125_2, fp_125_3, fp_125_4, fp_177_0, fp_177_1, fp_177_2, fp_177_3, ld_2, ld_3, ld_9, ld_22, ld_23, ld_25, ld_30, ld_63, ld_64, ld_65, ld_67, ld_69, ld_71, ld_100, ld_125, ld_141, ld_177, len_9, len_22, lenS_22, lenN_22, len_23, lenS_23, lenN_23, len_30, lenS_30, lenN_30, len_63, lenS_63, lenN_63, len_64, lenS_64, lenN_64, len_65, lenS_65, lenN_65, len_148, lenS_148, lenN_148, len_205, lenS_205, lenN_205, beql_4, pneq_141, pneq0_141, funsV, List.length_map, not_lt_len]
    refine Wq.retE ?_ hA
    rw [List.drop_of_length_le (Nat.le_refl _), rgt, Bool.true_and]
    congr 1
    rw [decide_eq_decide]; omega
  · have hg : fs[i]? = some fs[i] := List.getElem?_eq_getElem hi
    generalize fs[i] = f at hg ih
    have hf : f ∈ fs := List.mem_of_getElem? hg
    have hd : fs.drop i = f :: fs.drop (i + 1) := by
      rw [List.drop_eq_getElem_cons hi]
      have : fs[i] = f := by rw [List.getElem?_eq_getElem hi] at hg; simpa using hg
      rw [this]
    rw [hd, rgt]
    have hg' : (fs.map Fun.v)[i]? = some (.agg ⟨[i64 f.free, i64 f.locs, rowV 5 (f.body.steps.map Step.v), i64 f.body.e, atomsV f.body.args, rowV 4 (f.body.blocks.map Block.v)]⟩) := by simp [hg, Fun.v]
    have p38 := pu_38 fs i f hg f.body (.slice none 0 0) [] false (.inr ⟨rfl, rfl⟩) (hs f hf) (by have := hc f hf; simpa using this)
    rw [f.body.v_eq] at p38
    have L12 : ∀ (bad : Bool) H1 nx1, Ag nx H nx1 H1 → fOk fs i f = !bad → Wq P pl X (.jump (l12_12 (funsV fs) (i64 i) bad H1 nx1)) nx H (.bool (fOk fs i f && rgt fs (i + 1) (fs.drop (i + 1)) && decide (0 < fs.length))) := by
      intro bad H1 nx1 hA1 hb
      refine Wq.jmp (q12_12 ..) (fun _ => rfl) ?_
      rw [hb]
      cases bad with
      | true => exact Wq.ret hA1
      | false =>
        simp only [oneCell_int, oneCell_str, oneCell_bool, oneCell_row, oneCell_ep, oneCell_nilp, cond_true, cond_false, optK_some, ldV_int, ldV_str, ldV_bool, ldV_row, ldV_ep, ldV_nilp, rdBin_add, rdBin_sub, rdBin_mul, rdBin_lss, rdBin_leq, rdBin_gtr, rdBin_geq, rdBin_eql, rdBin_neq, rdBin_seql, rdBin_sneq, unV_not, bvK_bool, bK_true, bK_false, Bool.not_true, Bool.not_false, Bool.not_not, rdNil_ep, rdNil_ptr, oneCell_sl, ldV_sl, vEq_self, List.length_nil, Int.cast_ofNat_Int, Int.reduceEq, Int.reduceLT, Int.reduceLE, decide_true, decide_false, eq_self, Bool.and_self, fa_25_0, fa_25_1, fa_25_2, fa_25_3, fa_25_4, fa_25_5, fa_67_0, fa_67_1, fa_67_2, fa_67_3, fa_69_0, fa_69_1, fa_69_2, fa_71_0, fa_71_1, fa_71_2, fa_71_3, fa_95_0, fa_95_1, fa_95_2, fa_102_0, fa_125_0, fa_125_1, fa_125_2, fa_125_3, fa_125_4, fa_145_0, fa_145_1, fa_177_0, fa_177_1, fp_25_0, fp_25_1, fp_25_2, fp_25_3, fp_25_4, fp_25_5, fp_67_0, fp_67_1, fp_67_2, fp_67_3, fp_69_0, fp_69_1, fp_69_2, fp_71_0, fp_71_1, fp_71_2, fp_71_3, fp_102_0, fp_125_0, fp_125_1, fp_125_2, fp_125_3, fp_125_4, fp_177_0, fp_177_1, fp_177_2, fp_177_3, ld_2, ld_3, ld_9, ld_22, ld_23, ld_25, ld_30, ld_63, ld_64, ld_65, ld_67, ld_69, ld_71, ld_100, ld_125, ld_141, ld_177, len_9, len_22, lenS_22, lenN_22, len_23, lenS_23, lenN_23, len_30, lenS_30, lenN_30, len_63, lenS_63, lenN_63, len_64, lenS_64, lenN_64, len_65, lenS_65, lenN_65, len_148, lenS_148, lenN_148, len_205, lenS_205, lenN_205, beql_4, pneq_141, pneq0_141, wrap_succ (show i < 9223372036854775807 by omega), Bool.true_and]
        exact ih () _ _ hA1
    refine Wq.jmp (q12_7 ..) (fun _ => rfl) ?_
    simp only [oneCell_int, oneCell_str, oneCell_bool, oneCell_row, oneCell_ep, oneCell_nilp, cond_true, cond_false, optK_some, ldV_int, ldV_str, ldV_bool, ldV_row, ldV_ep, ldV_nilp, rdBin_add, rdBin_sub, rdBin_mul, rdBin_lss, rdBin_leq, rdBin_gtr, rdBin_geq, rdBin_eql, rdBin_neq, rdBin_seql, rdBin_sneq, unV_not, bvK_bool, bK_true, bK_false, Bool.not_true, Bool.not_false, Bool.not_not, rdNil_ep, rdNil_ptr, oneCell_sl, ldV_sl, vEq_self, List.length_nil, Int.cast_ofNat_Int, Int.reduceEq, Int.reduceLT, Int.reduceLE, decide_true, decide_false, eq_self, Bool.and_self, fa_25_0, fa_25_1, fa_25_2, fa_25_3, fa_25_4, fa_25_5, fa_67_0, fa_67_1, fa_67_2, fa_67_3, fa_69_0, fa_69_1, fa_69_2, fa_71_0, fa_71_1, fa_71_2, fa_71_3, fa_95_0, fa_95_1, fa_95_2, fa_102_0, fa_125_0, fa_125_1, fa_125_2, fa_125_3, fa_125_4, fa_145_0, fa_145_1, fa_177_0, fa_177_1, fp_25_0, fp_25_1, fp_25_2, fp_25_3, fp_25_4, fp_25_5, fp_67_0, fp_67_1, fp_67_2, fp_67_3, fp_69_0, fp_69_1, fp_69_2, fp_71_0, fp_71_1, fp_71_2, fp_71_3, fp_102_0, fp_125_0, fp_125_1, fp_125_2, fp_125_3, fp_125_4, fp_177_0, fp_177_1, fp_177_2, fp_177_3, ld_2, ld_3, ld_9, ld_22, ld_23, ld_25, ld_30, ld_63, ld_64, ld_65, ld_67, ld_69, ld_71, ld_100, ld_125, ld_141, ld_177, len_9, len_22, lenS_22, lenN_22, len_23, lenS_23, lenN_23, len_30, lenS_30, lenN_30, len_63, lenS_63, lenN_63, len_64, lenS_64, lenN_64, len_65, lenS_65, lenN_65, len_148, lenS_148, lenN_148, len_205, lenS_205, lenN_205, beql_4, pneq_141, pneq0_141, funsV, List.length_map, is_lt_len hi, ix_30 hg']
    refine Wq.ite (fun h => L12 _ _ _ hA ?_) (fun ha => ?_)
    · unfold fOk; rw [decide_eq_true (Or.inl h)]; rfl
    refine Wq.ite (fun h => L12 _ _ _ hA ?_) (fun hb => ?_)
    · unfold fOk; rw [decide_eq_true (Or.inr (Or.inl h))]; rfl
    refine Wq.ite (fun hi0 => ?_) (fun hi0 => ?_)
    · refine Wq.bK (fun h => L12 _ _ _ hA ?_) (fun hz => ?_)
      · unfold fOk; rw [decide_eq_true (Or.inr (Or.inr ⟨by omega, by simpa using h⟩))]; rfl
      · refine Wq.call p38 hA fun H2 nx2 hA2 => ?_
        simp only [oneCell_int, oneCell_str, oneCell_bool, oneCell_row, oneCell_ep, oneCell_nilp, cond_true, cond_false, optK_some, ldV_int, ldV_str, ldV_bool, ldV_row, ldV_ep, ldV_nilp, rdBin_add, rdBin_sub, rdBin_mul, rdBin_lss, rdBin_leq, rdBin_gtr, rdBin_geq, rdBin_eql, rdBin_neq, rdBin_seql, rdBin_sneq, unV_not, bvK_bool, bK_true, bK_false, Bool.not_true, Bool.not_false, Bool.not_not, rdNil_ep, rdNil_ptr, oneCell_sl, ldV_sl, vEq_self, List.length_nil, Int.cast_ofNat_Int, Int.reduceEq, Int.reduceLT, Int.reduceLE, decide_true, decide_false, eq_self, Bool.and_self, fa_25_0, fa_25_1, fa_25_2, fa_25_3, fa_25_4, fa_25_5, fa_67_0, fa_67_1, fa_67_2, fa_67_3, fa_69_0, fa_69_1, fa_69_2, fa_71_0, fa_71_1, fa_71_2, fa_71_3, fa_95_0, fa_95_1, fa_95_2, fa_102_0, fa_125_0, fa_125_1, fa_125_2, fa_125_3, fa_125_4, fa_145_0, fa_145_1, fa_177_0, fa_177_1, fp_25_0, fp_25_1, fp_25_2, fp_25_3, fp_25_4, fp_25_5, fp_67_0, fp_67_1, fp_67_2, fp_67_3, fp_69_0, fp_69_1, fp_69_2, fp_71_0, fp_71_1, fp_71_2, fp_71_3, fp_102_0, fp_125_0, fp_125_1, fp_125_2, fp_125_3, fp_125_4, fp_177_0, fp_177_1, fp_177_2, fp_177_3, ld_2, ld_3, ld_9, ld_22, ld_23, ld_25, ld_30, ld_63, ld_64, ld_65, ld_67, ld_69, ld_71, ld_100, ld_125, ld_141, ld_177, len_9, len_22, lenS_22, lenN_22, len_23, lenS_23, lenN_23, len_30, lenS_30, lenN_30, len_63, lenS_63, lenN_63, len_64, lenS_64, lenN_64, len_65, lenS_65, lenN_65, len_148, lenS_148, lenN_148, len_205, lenS_205, lenN_205, beql_4, pneq_141, pneq0_141]
        refine L12 _ _ _ hA2 ?_
        unfold fOk
        rw [decide_eq_false (by simp at hz; omega)]
        simp
    · refine Wq.call p38 hA fun H2 nx2 hA2 => ?_
      simp only [oneCell_int, oneCell_str, oneCell_bool, oneCell_row, oneCell_ep, oneCell_nilp, cond_true, cond_false, optK_some, ldV_int, ldV_str, ldV_bool, ldV_row, ldV_ep, ldV_nilp, rdBin_add, rdBin_sub, rdBin_mul, rdBin_lss, rdBin_leq, rdBin_gtr, rdBin_geq, rdBin_eql, rdBin_neq, rdBin_seql, rdBin_sneq, unV_not, bvK_bool, bK_true, bK_false, Bool.not_true, Bool.not_false, Bool.not_not, rdNil_ep, rdNil_ptr, oneCell_sl, ldV_sl, vEq_self, List.length_nil, Int.cast_ofNat_Int, Int.reduceEq, Int.reduceLT, Int.reduceLE, decide_true, decide_false, eq_self, Bool.and_self, fa_25_0, fa_25_1, fa_25_2, fa_25_3, fa_25_4, fa_25_5, fa_67_0, fa_67_1, fa_67_2, fa_67_3, fa_69_0, fa_69_1, fa_69_2, fa_71_0, fa_71_1, fa_71_2, fa_71_3, fa_95_0, fa_95_1, fa_95_2, fa_102_0, fa_125_0, fa_125_1, fa_125_2, fa_125_3, fa_125_4, fa_145_0, fa_145_1, fa_177_0, fa_177_1, fp_25_0, fp_25_1, fp_25_2, fp_25_3, fp_25_4, fp_25_5, fp_67_0, fp_67_1, fp_67_2, fp_67_3, fp_69_0, fp_69_1, fp_69_2, fp_71_0, fp_71_1, fp_71_2, fp_71_3, fp_102_0, fp_125_0, fp_125_1, fp_125_2, fp_125_3, fp_125_4, fp_177_0, fp_177_1, fp_177_2, fp_177_3, ld_2, ld_3, ld_9, ld_22, ld_23, ld_25, ld_30, ld_63, ld_64, ld_65, ld_67, ld_69, ld_71, ld_100, ld_125, ld_141, ld_177, len_9, len_22, lenS_22, lenN_22, len_23, lenS_23, lenN_23, len_30, lenS_30, lenN_30, len_63, lenS_63, lenN_63, len_64, lenS_64, lenN_64, len_65, lenS_65, lenN_65, len_148, lenS_148, lenN_148, len_205, lenS_205, lenN_205, beql_4, pneq_141, pneq0_141]
      refine L12 _ _ _ hA2 ?_
      unfold fOk
      rw [decide_eq_false (by omega)]
      simp
theorem bd_95 (fs : List Fun) (f : Fun) (i : Nat) : rdBuild P 95 (some [(0, funsV fs), (1, .agg ⟨f.cl⟩), (2, i64 i)]) = some (.agg ⟨[funsV fs, i64 f.free, i64 f.locs, rowV 5 (f.body.steps.map Step.v), i64 f.body.e, atomsV f.body.args, rowV 4 (f.body.blocks.map Block.v), i64 i]⟩) := by
  have hz : zeroC P 95 = some [.slice none 0 0, i64 0, i64 0, .slice none 0 0, i64 0, .slice none 0 0, .slice none 0 0, i64 0] := by kernel_rfl
  exact rdBuild_of hz (by kernel_rfl)
theorem pu_18 (fs : List Fun) (hl : fs.length < big) (hs : ∀ f, f ∈ fs → bSm f.body) : Pu 18 [funsV fs] (.bool (right fs)) := Pure.of rfl fun H nx => by
  have hbig : big = 1125899906842624 := rfl
  rw [q18]
  simp only [oneCell_int, oneCell_str, oneCell_bool, oneCell_row, oneCell_ep, oneCell_nilp, cond_true, cond_false, optK_some, ldV_int, ldV_str, ldV_bool, ldV_row, ldV_ep, ldV_nilp, rdBin_add, rdBin_sub, rdBin_mul, rdBin_lss, rdBin_leq, rdBin_gtr, rdBin_geq, rdBin_eql, rdBin_neq, rdBin_seql, rdBin_sneq, unV_not, bvK_bool, bK_true, bK_false, Bool.not_true, Bool.not_false, Bool.not_not, rdNil_ep, rdNil_ptr, oneCell_sl, ldV_sl, vEq_self, List.length_nil, Int.cast_ofNat_Int, Int.reduceEq, Int.reduceLT, Int.reduceLE, decide_true, decide_false, eq_self, Bool.and_self, fa_25_0, fa_25_1, fa_25_2, fa_25_3, fa_25_4, fa_25_5, fa_67_0, fa_67_1, fa_67_2, fa_67_3, fa_69_0, fa_69_1, fa_69_2, fa_71_0, fa_71_1, fa_71_2, fa_71_3, fa_95_0, fa_95_1, fa_95_2, fa_102_0, fa_125_0, fa_125_1, fa_125_2, fa_125_3, fa_125_4, fa_145_0, fa_145_1, fa_177_0, fa_177_1, fp_25_0, fp_25_1, fp_25_2, fp_25_3, fp_25_4, fp_25_5, fp_67_0, fp_67_1, fp_67_2, fp_67_3, fp_69_0, fp_69_1, fp_69_2, fp_71_0, fp_71_1, fp_71_2, fp_71_3, fp_102_0, fp_125_0, fp_125_1, fp_125_2, fp_125_3, fp_125_4, fp_177_0, fp_177_1, fp_177_2, fp_177_3, ld_2, ld_3, ld_9, ld_22, ld_23, ld_25, ld_30, ld_63, ld_64, ld_65, ld_67, ld_69, ld_71, ld_100, ld_125, ld_141, ld_177, len_9, len_22, lenS_22, lenN_22, len_23, lenS_23, lenN_23, len_30, lenS_30, lenN_30, len_63, lenS_63, lenN_63, len_64, lenS_64, lenN_64, len_65, lenS_65, lenN_65, len_148, lenS_148, lenN_148, len_205, lenS_205, lenN_205, beql_4, pneq_141, pneq0_141, funsV, List.length_map]
  refine Wq.up fs.length (fun i (_ : Unit) H nx => .jump (l18_7 (funsV fs) (funsV fs) (i64 fs.length) (i64 i) H nx)) (fun i _ => .bool (rgt fs i (fs.drop i) && decide (0 < fs.length))) (fun _ H1 nx1 hA => ?_) (fun i _ H1 nx1 hi ih hA => ?_) 0 () H nx (Nat.zero_le _) (.refl _ _)
  · refine Wq.jmp (q18_7 ..) (fun _ => rfl) ?_
    simp only [oneCell_int, oneCell_str, oneCell_bool, oneCell_row, oneCell_ep, oneCell_nilp, cond_true, cond_false, optK_some, ldV_int, ldV_str, ldV_bool, ldV_row, ldV_ep, ldV_nilp, rdBin_add, rdBin_sub, rdBin_mul, rdBin_lss, rdBin_leq, rdBin_gtr, rdBin_geq, rdBin_eql, rdBin_neq, rdBin_seql, rdBin_sneq, unV_not, bvK_bool, bK_true, bK_false, Bool.not_true, Bool.not_false, Bool.not_not, rdNil_ep, rdNil_ptr, oneCell_sl, ldV_sl, vEq_self, List.length_nil, Int.cast_ofNat_Int, Int.reduceEq, Int.reduceLT, Int.reduceLE, decide_true, decide_false, eq_self, Bool.and_self, fa_25_0, fa_25_1, fa_25_2, fa_25_3, fa_25_4, fa_25_5, fa_67_0, fa_67_1, fa_67_2, fa_67_3, fa_69_0, fa_69_1, fa_69_2, fa_71_0, fa_71_1, fa_71_2, fa_71_3, fa_95_0, fa_95_1, fa_95_2, fa_102_0, fa_125_0, fa_125_1, fa_125_2, fa_125_3, fa_125_4, fa_145_0, fa_145_1, fa_177_0, fa_177_1, fp_25_0, fp_25_1, fp_25_2, fp_25_3, fp_25_4, fp_25_5, fp_67_0, fp_67_1, fp_67_2, fp_67_3, fp_69_0, fp_69_1, fp_69_2, fp_71_0, fp_71_1, fp_71_2, fp_71_3, fp_102_0, fp_125_0, fp_125_1, fp_125_2, fp_125_3, fp_125_4, fp_177_0, fp_177_1, fp_177_2, fp_177_3, ld_2, ld_3, ld_9, ld_22, ld_23, ld_25, ld_30, ld_63, ld_64, ld_65, ld_67, ld_69, ld_71, ld_100, ld_125, ld_141, ld_177, len_9, len_22, lenS_22, lenN_22, len_23, lenS_23, lenN_23, len_30, lenS_30, lenN_30, len_63, lenS_63, lenN_63, len_64, lenS_64, lenN_64, len_65, lenS_65, lenN_65, len_148, lenS_148, lenN_148, len_205, lenS_205, lenN_205, beql_4, pneq_141, pneq0_141, funsV, List.length_map, not_lt_len]
    refine Wq.retE ?_ hA
    rw [List.drop_of_length_le (Nat.le_refl _), rgt, Bool.true_and]
    congr 1
    rw [decide_eq_decide]; omega
  · have hg : fs[i]? = some fs[i] := List.getElem?_eq_getElem hi
    generalize fs[i] = f at hg ih
    have hf : f ∈ fs := List.mem_of_getElem? hg
    have hd : fs.drop i = f :: fs.drop (i + 1) := by
      rw [List.drop_eq_getElem_cons hi]
      have : fs[i] = f := by rw [List.getElem?_eq_getElem hi] at hg; simpa using hg
      rw [this]
    rw [hd, rgt]
    have hg' : (fs.map Fun.v)[i]? = some (.agg ⟨[i64 f.free, i64 f.locs, rowV 5 (f.body.steps.map Step.v), i64 f.body.e, atomsV f.body.args, rowV 4 (f.body.blocks.map Block.v)]⟩) := by simp [hg, Fun.v]
    have p45 := pu_45 fs i f (decide (i = 0)) (by rw [decide_eq_true_eq]; omega) (decN0 i).symm f.body [] true (hs f hf)
    rw [f.body.v_eq, Bool.not_true, show seenV [] = .pointer none from rfl] at p45
    have L14 : ∀ (bad : Bool) H1 nx1, Ag nx H nx1 H1 → fOk fs i f = !bad → Wq P pl X (.jump (l18_14 (funsV fs) (funsV fs) (i64 fs.length) (i64 i) bad H1 nx1)) nx H (.bool (fOk fs i f && rgt fs (i + 1) (fs.drop (i + 1)) && decide (0 < fs.length))) := by
      intro bad H1 nx1 hA1 hb
      refine Wq.jmp (q18_14 ..) (fun _ => rfl) ?_
      rw [hb]
      cases bad with
      | true => exact Wq.ret hA1
      | false =>
        simp only [oneCell_int, oneCell_str, oneCell_bool, oneCell_row, oneCell_ep, oneCell_nilp, cond_true, cond_false, optK_some, ldV_int, ldV_str, ldV_bool, ldV_row, ldV_ep, ldV_nilp, rdBin_add, rdBin_sub, rdBin_mul, rdBin_lss, rdBin_leq, rdBin_gtr, rdBin_geq, rdBin_eql, rdBin_neq, rdBin_seql, rdBin_sneq, unV_not, bvK_bool, bK_true, bK_false, Bool.not_true, Bool.not_false, Bool.not_not, rdNil_ep, rdNil_ptr, oneCell_sl, ldV_sl, vEq_self, List.length_nil, Int.cast_ofNat_Int, Int.reduceEq, Int.reduceLT, Int.reduceLE, decide_true, decide_false, eq_self, Bool.and_self, fa_25_0, fa_25_1, fa_25_2, fa_25_3, fa_25_4, fa_25_5, fa_67_0, fa_67_1, fa_67_2, fa_67_3, fa_69_0, fa_69_1, fa_69_2, fa_71_0, fa_71_1, fa_71_2, fa_71_3, fa_95_0, fa_95_1, fa_95_2, fa_102_0, fa_125_0, fa_125_1, fa_125_2, fa_125_3, fa_125_4, fa_145_0, fa_145_1, fa_177_0, fa_177_1, fp_25_0, fp_25_1, fp_25_2, fp_25_3, fp_25_4, fp_25_5, fp_67_0, fp_67_1, fp_67_2, fp_67_3, fp_69_0, fp_69_1, fp_69_2, fp_71_0, fp_71_1, fp_71_2, fp_71_3, fp_102_0, fp_125_0, fp_125_1, fp_125_2, fp_125_3, fp_125_4, fp_177_0, fp_177_1, fp_177_2, fp_177_3, ld_2, ld_3, ld_9, ld_22, ld_23, ld_25, ld_30, ld_63, ld_64, ld_65, ld_67, ld_69, ld_71, ld_100, ld_125, ld_141, ld_177, len_9, len_22, lenS_22, lenN_22, len_23, lenS_23, lenN_23, len_30, lenS_30, lenN_30, len_63, lenS_63, lenN_63, len_64, lenS_64, lenN_64, len_65, lenS_65, lenN_65, len_148, lenS_148, lenN_148, len_205, lenS_205, lenN_205, beql_4, pneq_141, pneq0_141, wrap_succ (show i < 9223372036854775807 by omega), Bool.true_and]
        exact ih () _ _ hA1
    refine Wq.jmp (q18_7 ..) (fun _ => rfl) ?_
    have bd := bd_95 fs f i
    rw [funsV] at bd
    simp only [oneCell_int, oneCell_str, oneCell_bool, oneCell_row, oneCell_ep, oneCell_nilp, cond_true, cond_false, optK_some, ldV_int, ldV_str, ldV_bool, ldV_row, ldV_ep, ldV_nilp, rdBin_add, rdBin_sub, rdBin_mul, rdBin_lss, rdBin_leq, rdBin_gtr, rdBin_geq, rdBin_eql, rdBin_neq, rdBin_seql, rdBin_sneq, unV_not, bvK_bool, bK_true, bK_false, Bool.not_true, Bool.not_false, Bool.not_not, rdNil_ep, rdNil_ptr, oneCell_sl, ldV_sl, vEq_self, List.length_nil, Int.cast_ofNat_Int, Int.reduceEq, Int.reduceLT, Int.reduceLE, decide_true, decide_false, eq_self, Bool.and_self, fa_25_0, fa_25_1, fa_25_2, fa_25_3, fa_25_4, fa_25_5, fa_67_0, fa_67_1, fa_67_2, fa_67_3, fa_69_0, fa_69_1, fa_69_2, fa_71_0, fa_71_1, fa_71_2, fa_71_3, fa_95_0, fa_95_1, fa_95_2, fa_102_0, fa_125_0, fa_125_1, fa_125_2, fa_125_3, fa_125_4, fa_145_0, fa_145_1, fa_177_0, fa_177_1, fp_25_0, fp_25_1, fp_25_2, fp_25_3, fp_25_4, fp_25_5, fp_67_0, fp_67_1, fp_67_2, fp_67_3, fp_69_0, fp_69_1, fp_69_2, fp_71_0, fp_71_1, fp_71_2, fp_71_3, fp_102_0, fp_125_0, fp_125_1, fp_125_2, fp_125_3, fp_125_4, fp_177_0, fp_177_1, fp_177_2, fp_177_3, ld_2, ld_3, ld_9, ld_22, ld_23, ld_25, ld_30, ld_63, ld_64, ld_65, ld_67, ld_69, ld_71, ld_100, ld_125, ld_141, ld_177, len_9, len_22, lenS_22, lenN_22, len_23, lenS_23, lenN_23, len_30, lenS_30, lenN_30, len_63, lenS_63, lenN_63, len_64, lenS_64, lenN_64, len_65, lenS_65, lenN_65, len_148, lenS_148, lenN_148, len_205, lenS_205, lenN_205, beql_4, pneq_141, pneq0_141, funsV, is_lt_len hi, ix_30 hg', bd]
    refine Wq.var zero_69 sz_69 rfl rfl rfl hA fun H2 nx2 hA => ?_
    refine Wq.natF' hA fun hA => ?_
    refine Wq.ite (fun h => L14 _ _ _ hA ?_) (fun ha => ?_)
    · unfold fOk; rw [decide_eq_true (Or.inl h)]; rfl
    refine Wq.ite (fun h => L14 _ _ _ hA ?_) (fun hb => ?_)
    · unfold fOk; rw [decide_eq_true (Or.inr (Or.inl h))]; rfl
    refine Wq.ite (fun hi0 => ?_) (fun hi0 => ?_)
    · refine Wq.ite (fun h => L14 _ _ _ hA ?_) (fun hz => ?_)
      · unfold fOk; rw [decide_eq_true (Or.inr (Or.inr ⟨by omega, by omega⟩))]; rfl
      · refine Wq.call p45 hA fun H2 nx2 hA2 => ?_
        simp only [oneCell_int, oneCell_str, oneCell_bool, oneCell_row, oneCell_ep, oneCell_nilp, cond_true, cond_false, optK_some, ldV_int, ldV_str, ldV_bool, ldV_row, ldV_ep, ldV_nilp, rdBin_add, rdBin_sub, rdBin_mul, rdBin_lss, rdBin_leq, rdBin_gtr, rdBin_geq, rdBin_eql, rdBin_neq, rdBin_seql, rdBin_sneq, unV_not, bvK_bool, bK_true, bK_false, Bool.not_true, Bool.not_false, Bool.not_not, rdNil_ep, rdNil_ptr, oneCell_sl, ldV_sl, vEq_self, List.length_nil, Int.cast_ofNat_Int, Int.reduceEq, Int.reduceLT, Int.reduceLE, decide_true, decide_false, eq_self, Bool.and_self, fa_25_0, fa_25_1, fa_25_2, fa_25_3, fa_25_4, fa_25_5, fa_67_0, fa_67_1, fa_67_2, fa_67_3, fa_69_0, fa_69_1, fa_69_2, fa_71_0, fa_71_1, fa_71_2, fa_71_3, fa_95_0, fa_95_1, fa_95_2, fa_102_0, fa_125_0, fa_125_1, fa_125_2, fa_125_3, fa_125_4, fa_145_0, fa_145_1, fa_177_0, fa_177_1, fp_25_0, fp_25_1, fp_25_2, fp_25_3, fp_25_4, fp_25_5, fp_67_0, fp_67_1, fp_67_2, fp_67_3, fp_69_0, fp_69_1, fp_69_2, fp_71_0, fp_71_1, fp_71_2, fp_71_3, fp_102_0, fp_125_0, fp_125_1, fp_125_2, fp_125_3, fp_125_4, fp_177_0, fp_177_1, fp_177_2, fp_177_3, ld_2, ld_3, ld_9, ld_22, ld_23, ld_25, ld_30, ld_63, ld_64, ld_65, ld_67, ld_69, ld_71, ld_100, ld_125, ld_141, ld_177, len_9, len_22, lenS_22, lenN_22, len_23, lenS_23, lenN_23, len_30, lenS_30, lenN_30, len_63, lenS_63, lenN_63, len_64, lenS_64, lenN_64, len_65, lenS_65, lenN_65, len_148, lenS_148, lenN_148, len_205, lenS_205, lenN_205, beql_4, pneq_141, pneq0_141]
        refine L14 _ _ _ hA2 ?_
        unfold fOk
        rw [decide_eq_false (by omega)]
        simp
    · refine Wq.call p45 hA fun H2 nx2 hA2 => ?_
      simp only [oneCell_int, oneCell_str, oneCell_bool, oneCell_row, oneCell_ep, oneCell_nilp, cond_true, cond_false, optK_some, ldV_int, ldV_str, ldV_bool, ldV_row, ldV_ep, ldV_nilp, rdBin_add, rdBin_sub, rdBin_mul, rdBin_lss, rdBin_leq, rdBin_gtr, rdBin_geq, rdBin_eql, rdBin_neq, rdBin_seql, rdBin_sneq, unV_not, bvK_bool, bK_true, bK_false, Bool.not_true, Bool.not_false, Bool.not_not, rdNil_ep, rdNil_ptr, oneCell_sl, ldV_sl, vEq_self, List.length_nil, Int.cast_ofNat_Int, Int.reduceEq, Int.reduceLT, Int.reduceLE, decide_true, decide_false, eq_self, Bool.and_self, fa_25_0, fa_25_1, fa_25_2, fa_25_3, fa_25_4, fa_25_5, fa_67_0, fa_67_1, fa_67_2, fa_67_3, fa_69_0, fa_69_1, fa_69_2, fa_71_0, fa_71_1, fa_71_2, fa_71_3, fa_95_0, fa_95_1, fa_95_2, fa_102_0, fa_125_0, fa_125_1, fa_125_2, fa_125_3, fa_125_4, fa_145_0, fa_145_1, fa_177_0, fa_177_1, fp_25_0, fp_25_1, fp_25_2, fp_25_3, fp_25_4, fp_25_5, fp_67_0, fp_67_1, fp_67_2, fp_67_3, fp_69_0, fp_69_1, fp_69_2, fp_71_0, fp_71_1, fp_71_2, fp_71_3, fp_102_0, fp_125_0, fp_125_1, fp_125_2, fp_125_3, fp_125_4, fp_177_0, fp_177_1, fp_177_2, fp_177_3, ld_2, ld_3, ld_9, ld_22, ld_23, ld_25, ld_30, ld_63, ld_64, ld_65, ld_67, ld_69, ld_71, ld_100, ld_125, ld_141, ld_177, len_9, len_22, lenS_22, lenN_22, len_23, lenS_23, lenN_23, len_30, lenS_30, lenN_30, len_63, lenS_63, lenN_63, len_64, lenS_64, lenN_64, len_65, lenS_65, lenN_65, len_148, lenS_148, lenN_148, len_205, lenS_205, lenN_205, beql_4, pneq_141, pneq0_141]
      refine L14 _ _ _ hA2 ?_
      unfold fOk
      rw [decide_eq_false (by omega)]
      simp
/-- The law: true for all functions. -/
theorem pu_5 (fs : List Fun) (hl : fs.length < big) (hs : ∀ f, f ∈ fs → bSm f.body) : Pu 5 [funsV fs] (.bool true) := Pure.of rfl fun H nx => by
  rw [q5]
  refine Wq.call (pu_21 fs 500 hl hs) (.refl _ _) fun H1 nx1 hA1 => ?_
  simp only [oneCell_int, oneCell_str, oneCell_bool, oneCell_row, oneCell_ep, oneCell_nilp, cond_true, cond_false, optK_some, ldV_int, ldV_str, ldV_bool, ldV_row, ldV_ep, ldV_nilp, rdBin_add, rdBin_sub, rdBin_mul, rdBin_lss, rdBin_leq, rdBin_gtr, rdBin_geq, rdBin_eql, rdBin_neq, rdBin_seql, rdBin_sneq, unV_not, bvK_bool, bK_true, bK_false, Bool.not_true, Bool.not_false, Bool.not_not, rdNil_ep, rdNil_ptr, oneCell_sl, ldV_sl, vEq_self, List.length_nil, Int.cast_ofNat_Int, Int.reduceEq, Int.reduceLT, Int.reduceLE, decide_true, decide_false, eq_self, Bool.and_self, fa_25_0, fa_25_1, fa_25_2, fa_25_3, fa_25_4, fa_25_5, fa_67_0, fa_67_1, fa_67_2, fa_67_3, fa_69_0, fa_69_1, fa_69_2, fa_71_0, fa_71_1, fa_71_2, fa_71_3, fa_95_0, fa_95_1, fa_95_2, fa_102_0, fa_125_0, fa_125_1, fa_125_2, fa_125_3, fa_125_4, fa_145_0, fa_145_1, fa_177_0, fa_177_1, fp_25_0, fp_25_1, fp_25_2, fp_25_3, fp_25_4, fp_25_5, fp_67_0, fp_67_1, fp_67_2, fp_67_3, fp_69_0, fp_69_1, fp_69_2, fp_71_0, fp_71_1, fp_71_2, fp_71_3, fp_102_0, fp_125_0, fp_125_1, fp_125_2, fp_125_3, fp_125_4, fp_177_0, fp_177_1, fp_177_2, fp_177_3, ld_2, ld_3, ld_9, ld_22, ld_23, ld_25, ld_30, ld_63, ld_64, ld_65, ld_67, ld_69, ld_71, ld_100, ld_125, ld_141, ld_177, len_9, len_22, lenS_22, lenN_22, len_23, lenS_23, lenN_23, len_30, lenS_30, lenN_30, len_63, lenS_63, lenN_63, len_64, lenS_64, lenN_64, len_65, lenS_65, lenN_65, len_148, lenS_148, lenN_148, len_205, lenS_205, lenN_205, beql_4, pneq_141, pneq0_141]
  refine Wq.ite (fun h => Wq.ret hA1) (fun h => ?_)
  refine Wq.call (pu_18 fs hl hs) hA1 fun H2 nx2 hA2 => ?_
  simp only [oneCell_int, oneCell_str, oneCell_bool, oneCell_row, oneCell_ep, oneCell_nilp, cond_true, cond_false, optK_some, ldV_int, ldV_str, ldV_bool, ldV_row, ldV_ep, ldV_nilp, rdBin_add, rdBin_sub, rdBin_mul, rdBin_lss, rdBin_leq, rdBin_gtr, rdBin_geq, rdBin_eql, rdBin_neq, rdBin_seql, rdBin_sneq, unV_not, bvK_bool, bK_true, bK_false, Bool.not_true, Bool.not_false, Bool.not_not, rdNil_ep, rdNil_ptr, oneCell_sl, ldV_sl, vEq_self, List.length_nil, Int.cast_ofNat_Int, Int.reduceEq, Int.reduceLT, Int.reduceLE, decide_true, decide_false, eq_self, Bool.and_self, fa_25_0, fa_25_1, fa_25_2, fa_25_3, fa_25_4, fa_25_5, fa_67_0, fa_67_1, fa_67_2, fa_67_3, fa_69_0, fa_69_1, fa_69_2, fa_71_0, fa_71_1, fa_71_2, fa_71_3, fa_95_0, fa_95_1, fa_95_2, fa_102_0, fa_125_0, fa_125_1, fa_125_2, fa_125_3, fa_125_4, fa_145_0, fa_145_1, fa_177_0, fa_177_1, fp_25_0, fp_25_1, fp_25_2, fp_25_3, fp_25_4, fp_25_5, fp_67_0, fp_67_1, fp_67_2, fp_67_3, fp_69_0, fp_69_1, fp_69_2, fp_71_0, fp_71_1, fp_71_2, fp_71_3, fp_102_0, fp_125_0, fp_125_1, fp_125_2, fp_125_3, fp_125_4, fp_177_0, fp_177_1, fp_177_2, fp_177_3, ld_2, ld_3, ld_9, ld_22, ld_23, ld_25, ld_30, ld_63, ld_64, ld_65, ld_67, ld_69, ld_71, ld_100, ld_125, ld_141, ld_177, len_9, len_22, lenS_22, lenN_22, len_23, lenS_23, lenN_23, len_30, lenS_30, lenN_30, len_63, lenS_63, lenN_63, len_64, lenS_64, lenN_64, len_65, lenS_65, lenN_65, len_148, lenS_148, lenN_148, len_205, lenS_205, lenN_205, beql_4, pneq_141, pneq0_141]
  refine Wq.call (pu_12 fs hl hs fun f hf => ?_) hA2 fun H3 nx3 hA3 => ?_
  · have := (fS_b fs hs 0 (by omega) (by omega)).2 (by omega) f hf
    omega
  · simp only [oneCell_int, oneCell_str, oneCell_bool, oneCell_row, oneCell_ep, oneCell_nilp, cond_true, cond_false, optK_some, ldV_int, ldV_str, ldV_bool, ldV_row, ldV_ep, ldV_nilp, rdBin_add, rdBin_sub, rdBin_mul, rdBin_lss, rdBin_leq, rdBin_gtr, rdBin_geq, rdBin_eql, rdBin_neq, rdBin_seql, rdBin_sneq, unV_not, bvK_bool, bK_true, bK_false, Bool.not_true, Bool.not_false, Bool.not_not, rdNil_ep, rdNil_ptr, oneCell_sl, ldV_sl, vEq_self, List.length_nil, Int.cast_ofNat_Int, Int.reduceEq, Int.reduceLT, Int.reduceLE, decide_true, decide_false, eq_self, Bool.and_self, fa_25_0, fa_25_1, fa_25_2, fa_25_3, fa_25_4, fa_25_5, fa_67_0, fa_67_1, fa_67_2, fa_67_3, fa_69_0, fa_69_1, fa_69_2, fa_71_0, fa_71_1, fa_71_2, fa_71_3, fa_95_0, fa_95_1, fa_95_2, fa_102_0, fa_125_0, fa_125_1, fa_125_2, fa_125_3, fa_125_4, fa_145_0, fa_145_1, fa_177_0, fa_177_1, fp_25_0, fp_25_1, fp_25_2, fp_25_3, fp_25_4, fp_25_5, fp_67_0, fp_67_1, fp_67_2, fp_67_3, fp_69_0, fp_69_1, fp_69_2, fp_71_0, fp_71_1, fp_71_2, fp_71_3, fp_102_0, fp_125_0, fp_125_1, fp_125_2, fp_125_3, fp_125_4, fp_177_0, fp_177_1, fp_177_2, fp_177_3, ld_2, ld_3, ld_9, ld_22, ld_23, ld_25, ld_30, ld_63, ld_64, ld_65, ld_67, ld_69, ld_71, ld_100, ld_125, ld_141, ld_177, len_9, len_22, lenS_22, lenN_22, len_23, lenS_23, lenN_23, len_30, lenS_30, lenN_30, len_63, lenS_63, lenN_63, len_64, lenS_64, lenN_64, len_65, lenS_65, lenN_65, len_148, lenS_148, lenN_148, len_205, lenS_205, lenN_205, beql_4, pneq_141, pneq0_141, beq_self_eq_true]
    refine Wq.call (u := .bool true) (Pure.ext rfl) hA3 fun H4 nx4 hA4 => ?_
    simp only [oneCell_int, oneCell_str, oneCell_bool, oneCell_row, oneCell_ep, oneCell_nilp, cond_true, cond_false, optK_some, ldV_int, ldV_str, ldV_bool, ldV_row, ldV_ep, ldV_nilp, rdBin_add, rdBin_sub, rdBin_mul, rdBin_lss, rdBin_leq, rdBin_gtr, rdBin_geq, rdBin_eql, rdBin_neq, rdBin_seql, rdBin_sneq, unV_not, bvK_bool, bK_true, bK_false, Bool.not_true, Bool.not_false, Bool.not_not, rdNil_ep, rdNil_ptr, oneCell_sl, ldV_sl, vEq_self, List.length_nil, Int.cast_ofNat_Int, Int.reduceEq, Int.reduceLT, Int.reduceLE, decide_true, decide_false, eq_self, Bool.and_self, fa_25_0, fa_25_1, fa_25_2, fa_25_3, fa_25_4, fa_25_5, fa_67_0, fa_67_1, fa_67_2, fa_67_3, fa_69_0, fa_69_1, fa_69_2, fa_71_0, fa_71_1, fa_71_2, fa_71_3, fa_95_0, fa_95_1, fa_95_2, fa_102_0, fa_125_0, fa_125_1, fa_125_2, fa_125_3, fa_125_4, fa_145_0, fa_145_1, fa_177_0, fa_177_1, fp_25_0, fp_25_1, fp_25_2, fp_25_3, fp_25_4, fp_25_5, fp_67_0, fp_67_1, fp_67_2, fp_67_3, fp_69_0, fp_69_1, fp_69_2, fp_71_0, fp_71_1, fp_71_2, fp_71_3, fp_102_0, fp_125_0, fp_125_1, fp_125_2, fp_125_3, fp_125_4, fp_177_0, fp_177_1, fp_177_2, fp_177_3, ld_2, ld_3, ld_9, ld_22, ld_23, ld_25, ld_30, ld_63, ld_64, ld_65, ld_67, ld_69, ld_71, ld_100, ld_125, ld_141, ld_177, len_9, len_22, lenS_22, lenN_22, len_23, lenS_23, lenN_23, len_30, lenS_30, lenN_30, len_63, lenS_63, lenN_63, len_64, lenS_64, lenN_64, len_65, lenS_65, lenN_65, len_148, lenS_148, lenN_148, len_205, lenS_205, lenN_205, beql_4, pneq_141, pneq0_141]
    exact Wq.ret hA4
end
end Go.Proofs.YtfdgoenmdalphaaGreatDoor
