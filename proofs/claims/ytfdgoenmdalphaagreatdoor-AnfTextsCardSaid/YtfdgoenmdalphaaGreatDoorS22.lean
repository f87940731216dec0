/- The program's text of functions: what is put. -/
import Derived.Test.YtfdgoenmdalphaaGreatDoorS19
import Derived.Test.YtfdgoenmdalphaaGreatDoorS21
namespace Go.Proofs.YtfdgoenmdalphaaGreatDoor
open Go.Ev Go.RowKit
noncomputable section
set_option maxRecDepth 100000
set_option linter.unusedVariables false
set_option linter.unusedSimpArgs false
/-! kinds that are some -/
def aD (a : Atom) : Prop := 1 ≤ a.k ∧ a.k ≤ 6
mutual
def bD : Block → Prop
  | .mk ss e ar bs => (1 ≤ e ∧ e ≤ 4) ∧ (∀ a, a ∈ ar → aD a) ∧ sD ss ∧ lD bs
def sD : List Step → Prop
  | [] => True
  | s :: l => stD s ∧ sD l
def stD : Step → Prop
  | .mk k _ _ ar bs => (1 ≤ k ∧ k ≤ 10) ∧ (∀ a, a ∈ ar → aD a) ∧ lD bs
def lD : List Block → Prop
  | [] => True
  | b :: l => bD b ∧ lD l
end
theorem sD_iff (l : List Step) : sD l ↔ ∀ s, s ∈ l → stD s := by
  induction l with
  | nil => simp [sD]
  | cons s l ih => simp [sD, ih]
theorem lD_iff (l : List Block) : lD l ↔ ∀ s, s ∈ l → bD s := by
  induction l with
  | nil => simp [lD]
  | cons s l ih => simp [lD, ih]
theorem bD_iff (b : Block) : bD b ↔ (1 ≤ b.e ∧ b.e ≤ 4) ∧ (∀ a, a ∈ b.args → aD a) ∧ (∀ s, s ∈ b.steps → stD s) ∧ (∀ c, c ∈ b.blocks → bD c) := by
  cases b; rw [bD, sD_iff, lD_iff]; rfl
theorem stD_iff (s : Step) : stD s ↔ (1 ≤ s.k ∧ s.k ≤ 10) ∧ (∀ a, a ∈ s.args → aD a) ∧ (∀ c, c ∈ s.blocks → bD c) := by
  cases s; rw [stD, lD_iff]; rfl
variable {nx0 : Nat} {H0 : T OB} {bp : Nat}
theorem bd_25_text (l : List UInt8) : rdBuild P 25 (some [(0, i64 2), (3, txt l)]) = some (textN l) := rdBuild_of zero_25 (by kernel_rfl)
theorem w_84_5 (l : List Atom) (hl : aSm l) (hR : ∀ a, a ∈ l → aR a) (hD : ∀ a, a ∈ l → aD a) : ∀ (t : List Atom) (i : Nat) (r : List UInt8) (H : T OB) (nx : Nat), l.drop i = t → i ≤ l.length → r.length + (tAs t).length ≤ 1000000 → Out bp nx0 H nx r → Ag nx0 H0 nx H →
    WqR P pl X (.jump (l84_5 (ptr bp) (rowV 4 (l.map Atom.v)) (i64 (l.length : Int)) (i64 (i : Int)) H nx)) nx0 H0 (Done bp nx0 (r ++ tAs t)) := by
  have hbig : big = 1125899906842624 := rfl
  have hl1 := hl.1
  intro t
  induction t with
  | nil =>
    intro i r H nx hd hi hlen hO hA
    have hil := drop_nil hd hi
    refine Wq.jmp (q84_5 ..) (fun _ => rfl) ?_
    simp only [oneCell_int, oneCell_str, oneCell_bool, oneCell_row, oneCell_ep, oneCell_nilp, cond_true, cond_false, optK_some, ldV_int, ldV_str, ldV_bool, ldV_row, ldV_ep, ldV_nilp, rdBin_add, rdBin_sub, rdBin_mul, rdBin_lss, rdBin_leq, rdBin_gtr, rdBin_geq, rdBin_eql, rdBin_neq, rdBin_seql, rdBin_sneq, unV_not, bvK_bool, bK_true, bK_false, Bool.not_true, Bool.not_false, Bool.not_not, rdNil_ep, rdNil_ptr, oneCell_sl, ldV_sl, vEq_self, List.length_nil, Int.cast_ofNat_Int, Int.reduceEq, Int.reduceLT, Int.reduceLE, decide_true, decide_false, eq_self, Bool.and_self, fa_25_0, fa_25_1, fa_25_2, fa_25_3, fa_25_4, fa_25_5, fa_67_0, fa_67_1, fa_67_2, fa_67_3, fa_69_0, fa_69_1, fa_69_2, fa_71_0, fa_71_1, fa_71_2, fa_71_3, fa_95_0, fa_95_1, fa_95_2, fa_102_0, fa_125_0, fa_125_1, fa_125_2, fa_125_3, fa_125_4, fa_145_0, fa_145_1, fa_177_0, fa_177_1, fp_25_0, fp_25_1, fp_25_2, fp_25_3, fp_25_4, fp_25_5, fp_67_0, fp_67_1, fp_67_2, fp_67_3, fp_69_0, fp_69_1, fp_69_2, fp_71_0, fp_71_1, fp_71_2, fp_71_3, fp_102_0, fp_125_0, fp_125_1, fp_125_2, fp_125_3, fp_125_4, fp_177_0, fp_177_1, fp_177_2, fp_177_3, ld_2, ld_3, ld_9, ld_22, ld_23, ld_25, ld_30, ld_63, ld_64, ld_65, ld_67, ld_69, ld_71, ld_100, ld_125, ld_141, ld_177, len_9, len_22, lenS_22, lenN_22, len_23, lenS_23, lenN_23, len_30, lenS_30, lenN_30, len_63, lenS_63, lenN_63, len_64, lenS_64, lenN_64, len_65, lenS_65, lenN_65, len_148, lenS_148, lenN_148, len_205, lenS_205, lenN_205, beql_4, pneq_141, pneq0_141, hil, not_lt_len]
    exact Wq.retR hA ⟨rfl, hO.len (by simp [tAs])⟩
  | cons a t ih =>
    intro i r H nx hd hi hlen hO hA
    obtain ⟨hg, hlt, hd'⟩ := drop_cons hd
    have hc : a ∈ l := List.mem_of_getElem? hg
    have hg' : (l.map Atom.v)[i]? = some a.v := by simp [hg]
    have hRa := hR a hc
    have hDa := hD a hc
    have dn := dig_length a.n hRa.1
    have dm := dig_length a.m hRa.2
    rw [tAs] at hlen
    simp only [List.length_cons, List.length_append] at hlen
    have L36 : ∀ (r1 : List UInt8) H1 nx1, r1 = r ++ 32 :: atx a → Out bp nx0 H1 nx1 r1 → Ag nx0 H0 nx1 H1 → WqR P pl X (.jump (l84_36 (ptr bp) (rowV 4 (l.map Atom.v)) (i64 (l.length : Int)) (i64 (i : Int)) H1 nx1)) nx0 H0 (Done bp nx0 (r ++ tAs (a :: t))) := by
      intro r1 H1 nx1 hr1 hO1 hA1
      subst hr1
      refine Wq.jmp (q84_36 ..) (fun _ => rfl) ?_
      simp only [oneCell_int, oneCell_str, oneCell_bool, oneCell_row, oneCell_ep, oneCell_nilp, cond_true, cond_false, optK_some, ldV_int, ldV_str, ldV_bool, ldV_row, ldV_ep, ldV_nilp, rdBin_add, rdBin_sub, rdBin_mul, rdBin_lss, rdBin_leq, rdBin_gtr, rdBin_geq, rdBin_eql, rdBin_neq, rdBin_seql, rdBin_sneq, unV_not, bvK_bool, bK_true, bK_false, Bool.not_true, Bool.not_false, Bool.not_not, rdNil_ep, rdNil_ptr, oneCell_sl, ldV_sl, vEq_self, List.length_nil, Int.cast_ofNat_Int, Int.reduceEq, Int.reduceLT, Int.reduceLE, decide_true, decide_false, eq_self, Bool.and_self, fa_25_0, fa_25_1, fa_25_2, fa_25_3, fa_25_4, fa_25_5, fa_67_0, fa_67_1, fa_67_2, fa_67_3, fa_69_0, fa_69_1, fa_69_2, fa_71_0, fa_71_1, fa_71_2, fa_71_3, fa_95_0, fa_95_1, fa_95_2, fa_102_0, fa_125_0, fa_125_1, fa_125_2, fa_125_3, fa_125_4, fa_145_0, fa_145_1, fa_177_0, fa_177_1, fp_25_0, fp_25_1, fp_25_2, fp_25_3, fp_25_4, fp_25_5, fp_67_0, fp_67_1, fp_67_2, fp_67_3, fp_69_0, fp_69_1, fp_69_2, fp_71_0, fp_71_1, fp_71_2, fp_71_3, fp_102_0, fp_125_0, fp_125_1, fp_125_2, fp_125_3, fp_125_4, fp_177_0, fp_177_1, fp_177_2, fp_177_3, ld_2, ld_3, ld_9, ld_22, ld_23, ld_25, ld_30, ld_63, ld_64, ld_65, ld_67, ld_69, ld_71, ld_100, ld_125, ld_141, ld_177, len_9, len_22, lenS_22, lenN_22, len_23, lenS_23, lenN_23, len_30, lenS_30, lenN_30, len_63, lenS_63, lenN_63, len_64, lenS_64, lenN_64, len_65, lenS_65, lenN_65, len_148, lenS_148, lenN_148, len_205, lenS_205, lenN_205, beql_4, pneq_141, pneq0_141, wrap_succ (show i < 9223372036854775807 by omega)]
      have := ih (i + 1) (r ++ 32 :: atx a) H1 nx1 hd' (by omega) (by simp; omega) hO1 hA1
      rw [tAs]
      simpa [List.append_assoc] using this
    refine Wq.jmp (q84_5 ..) (fun _ => rfl) ?_
    rw [Atom.v] at hg'
    simp only [oneCell_int, oneCell_str, oneCell_bool, oneCell_row, oneCell_ep, oneCell_nilp, cond_true, cond_false, optK_some, ldV_int, ldV_str, ldV_bool, ldV_row, ldV_ep, ldV_nilp, rdBin_add, rdBin_sub, rdBin_mul, rdBin_lss, rdBin_leq, rdBin_gtr, rdBin_geq, rdBin_eql, rdBin_neq, rdBin_seql, rdBin_sneq, unV_not, bvK_bool, bK_true, bK_false, Bool.not_true, Bool.not_false, Bool.not_not, rdNil_ep, rdNil_ptr, oneCell_sl, ldV_sl, vEq_self, List.length_nil, Int.cast_ofNat_Int, Int.reduceEq, Int.reduceLT, Int.reduceLE, decide_true, decide_false, eq_self, Bool.and_self, fa_25_0, fa_25_1, fa_25_2, fa_25_3, fa_25_4, fa_25_5, fa_67_0, fa_67_1, fa_67_2, fa_67_3, fa_69_0, fa_69_1, fa_69_2, fa_71_0, fa_71_1, fa_71_2, fa_71_3, fa_95_0, fa_95_1, fa_95_2, fa_102_0, fa_125_0, fa_125_1, fa_125_2, fa_125_3, fa_125_4, fa_145_0, fa_145_1, fa_177_0, fa_177_1, fp_25_0, fp_25_1, fp_25_2, fp_25_3, fp_25_4, fp_25_5, fp_67_0, fp_67_1, fp_67_2, fp_67_3, fp_69_0, fp_69_1, fp_69_2, fp_71_0, fp_71_1, fp_71_2, fp_71_3, fp_102_0, fp_125_0, fp_125_1, fp_125_2, fp_125_3, fp_125_4, fp_177_0, fp_177_1, fp_177_2, fp_177_3, ld_2, ld_3, ld_9, ld_22, ld_23, ld_25, ld_30, ld_63, ld_64, ld_65, ld_67, ld_69, ld_71, ld_100, ld_125, ld_141, ld_177, len_9, len_22, lenS_22, lenN_22, len_23, lenS_23, lenN_23, len_30, lenS_30, lenN_30, len_63, lenS_63, lenN_63, len_64, lenS_64, lenN_64, len_65, lenS_65, lenN_65, len_148, lenS_148, lenN_148, len_205, lenS_205, lenN_205, beql_4, pneq_141, pneq0_141, is_lt_len hlt, ix_64 hg']
    refine Wq.varB zero_71 sz_71 rfl rfl rfl hA fun H1 nx1 hA1 hn1 keep1 => ?_
    refine Wq.putL [[32]] rfl (by simp) rfl (ft1 _) (hO.keep hn1 keep1) (by simp; omega) hA1 fun _ H2 nx2 hO2 hA2 => ?_
    generalize hx : atx a = x at hlen L36
    unfold atx at hx
    refine Wq.ite (fun h => ?_) (fun h1 => ?_)
    · rw [if_neg (by omega), if_neg (by omega), if_neg (by omega), if_neg (by omega), if_neg (by omega)] at hx; subst hx
      refine Wq.callB (pu_82 a.m hRa.2) hA2 fun H3 nx3 hA3 hn3 keep3 => ?_
      refine Wq.putL [dig a.m] rfl (by simp) rfl (ft1 _) (hO2.keep hn3 keep3) (by simp; omega) hA3 fun _ H4 nx4 hO4 hA4 => ?_
      exact L36 _ _ _ (by simp) hO4 hA4
    refine Wq.ite (fun h => ?_) (fun h2 => ?_)
    · rw [if_pos h] at hx; subst hx
      have hq : (qs a.t.data.toList).length ≤ 1000000 := by
        unfold quote at hlen; simp at hlen ⊢; omega
      have hgq := qs_ge a.t.data.toList
      rw [txt_data a.t]
      simp only [oneCell_int, oneCell_str, oneCell_bool, oneCell_row, oneCell_ep, oneCell_nilp, cond_true, cond_false, optK_some, ldV_int, ldV_str, ldV_bool, ldV_row, ldV_ep, ldV_nilp, rdBin_add, rdBin_sub, rdBin_mul, rdBin_lss, rdBin_leq, rdBin_gtr, rdBin_geq, rdBin_eql, rdBin_neq, rdBin_seql, rdBin_sneq, unV_not, bvK_bool, bK_true, bK_false, Bool.not_true, Bool.not_false, Bool.not_not, rdNil_ep, rdNil_ptr, oneCell_sl, ldV_sl, vEq_self, List.length_nil, Int.cast_ofNat_Int, Int.reduceEq, Int.reduceLT, Int.reduceLE, decide_true, decide_false, eq_self, Bool.and_self, fa_25_0, fa_25_1, fa_25_2, fa_25_3, fa_25_4, fa_25_5, fa_67_0, fa_67_1, fa_67_2, fa_67_3, fa_69_0, fa_69_1, fa_69_2, fa_71_0, fa_71_1, fa_71_2, fa_71_3, fa_95_0, fa_95_1, fa_95_2, fa_102_0, fa_125_0, fa_125_1, fa_125_2, fa_125_3, fa_125_4, fa_145_0, fa_145_1, fa_177_0, fa_177_1, fp_25_0, fp_25_1, fp_25_2, fp_25_3, fp_25_4, fp_25_5, fp_67_0, fp_67_1, fp_67_2, fp_67_3, fp_69_0, fp_69_1, fp_69_2, fp_71_0, fp_71_1, fp_71_2, fp_71_3, fp_102_0, fp_125_0, fp_125_1, fp_125_2, fp_125_3, fp_125_4, fp_177_0, fp_177_1, fp_177_2, fp_177_3, ld_2, ld_3, ld_9, ld_22, ld_23, ld_25, ld_30, ld_63, ld_64, ld_65, ld_67, ld_69, ld_71, ld_100, ld_125, ld_141, ld_177, len_9, len_22, lenS_22, lenN_22, len_23, lenS_23, lenN_23, len_30, lenS_30, lenN_30, len_63, lenS_63, lenN_63, len_64, lenS_64, lenN_64, len_65, lenS_65, lenN_65, len_148, lenS_148, lenN_148, len_205, lenS_205, lenN_205, beql_4, pneq_141, pneq0_141, bd_25_text]
      refine Wq.callB (pu_113 _ hq (by omega)) hA2 fun H3 nx3 hA3 hn3 keep3 => ?_
      refine Wq.putL [quote a.t.data.toList] rfl (by simp) rfl (ft1 _) (hO2.keep hn3 keep3) (by simp; omega) hA3 fun _ H4 nx4 hO4 hA4 => ?_
      exact L36 _ _ _ (by simp) hO4 hA4
    rw [if_neg h2] at hx
    refine Wq.ite (fun h => ?_) (fun h3 => ?_)
    · rw [if_pos h] at hx; subst hx
      refine Wq.callB (pu_49 a.n hRa.1) hA2 fun H3 nx3 hA3 hn3 keep3 => ?_
      refine Wq.putL [[37], dig a.n] rfl (by simp) rfl (ft2 _ _) (hO2.keep hn3 keep3) (by simp; omega) hA3 fun _ H4 nx4 hO4 hA4 => ?_
      exact L36 _ _ _ (by simp) hO4 hA4
    rw [if_neg h3] at hx
    refine Wq.ite (fun h => ?_) (fun h4 => ?_)
    · rw [if_pos h] at hx; subst hx
      refine Wq.putL [[97, 114, 103]] rfl (by simp) rfl (ft1 _) hO2 (by simp at hlen ⊢; omega) hA2 fun _ H4 nx4 hO4 hA4 => ?_
      exact L36 _ _ _ (by simp) hO4 hA4
    rw [if_neg h4] at hx
    refine Wq.ite (fun h => ?_) (fun h5 => ?_)
    · rw [if_pos h] at hx; subst hx
      refine Wq.callB (pu_49 a.n hRa.1) hA2 fun H3 nx3 hA3 hn3 keep3 => ?_
      refine Wq.putL [[94], dig a.n] rfl (by simp) rfl (ft2 _ _) (hO2.keep hn3 keep3) (by simp; omega) hA3 fun _ H4 nx4 hO4 hA4 => ?_
      exact L36 _ _ _ (by simp) hO4 hA4
    rw [if_neg h5] at hx
    refine Wq.ite (fun h => ?_) (fun h6 => ?_)
    · rw [if_pos h] at hx; subst hx
      refine Wq.callB (pu_49 a.n hRa.1) hA2 fun H3 nx3 hA3 hn3 keep3 => ?_
      refine Wq.putL [[36], dig a.n] rfl (by simp) rfl (ft2 _ _) (hO2.keep hn3 keep3) (by simp; omega) hA3 fun _ H4 nx4 hO4 hA4 => ?_
      exact L36 _ _ _ (by simp) hO4 hA4
    unfold aD at hDa; omega
theorem w_84 {H : T OB} {nx : Nat} {r : List UInt8} (l : List Atom) (hl : aSm l) (hR : ∀ a, a ∈ l → aR a) (hD : ∀ a, a ∈ l → aD a) (hlen : r.length + (tAs l).length ≤ 1000000) (hO : Out bp nx0 H nx r) (hA : Ag nx0 H0 nx H) :
    WqR P pl X (evT P pl (.call 84 [ptr bp, atomsV l] false none H nx)) nx0 H0 (Done bp nx0 (r ++ tAs l)) := by
  rw [q84]
  simp only [oneCell_int, oneCell_str, oneCell_bool, oneCell_row, oneCell_ep, oneCell_nilp, cond_true, cond_false, optK_some, ldV_int, ldV_str, ldV_bool, ldV_row, ldV_ep, ldV_nilp, rdBin_add, rdBin_sub, rdBin_mul, rdBin_lss, rdBin_leq, rdBin_gtr, rdBin_geq, rdBin_eql, rdBin_neq, rdBin_seql, rdBin_sneq, unV_not, bvK_bool, bK_true, bK_false, Bool.not_true, Bool.not_false, Bool.not_not, rdNil_ep, rdNil_ptr, oneCell_sl, ldV_sl, vEq_self, List.length_nil, Int.cast_ofNat_Int, Int.reduceEq, Int.reduceLT, Int.reduceLE, decide_true, decide_false, eq_self, Bool.and_self, fa_25_0, fa_25_1, fa_25_2, fa_25_3, fa_25_4, fa_25_5, fa_67_0, fa_67_1, fa_67_2, fa_67_3, fa_69_0, fa_69_1, fa_69_2, fa_71_0, fa_71_1, fa_71_2, fa_71_3, fa_95_0, fa_95_1, fa_95_2, fa_102_0, fa_125_0, fa_125_1, fa_125_2, fa_125_3, fa_125_4, fa_145_0, fa_145_1, fa_177_0, fa_177_1, fp_25_0, fp_25_1, fp_25_2, fp_25_3, fp_25_4, fp_25_5, fp_67_0, fp_67_1, fp_67_2, fp_67_3, fp_69_0, fp_69_1, fp_69_2, fp_71_0, fp_71_1, fp_71_2, fp_71_3, fp_102_0, fp_125_0, fp_125_1, fp_125_2, fp_125_3, fp_125_4, fp_177_0, fp_177_1, fp_177_2, fp_177_3, ld_2, ld_3, ld_9, ld_22, ld_23, ld_25, ld_30, ld_63, ld_64, ld_65, ld_67, ld_69, ld_71, ld_100, ld_125, ld_141, ld_177, len_9, len_22, lenS_22, lenN_22, len_23, lenS_23, lenN_23, len_30, lenS_30, lenN_30, len_63, lenS_63, lenN_63, len_64, lenS_64, lenN_64, len_65, lenS_65, lenN_65, len_148, lenS_148, lenN_148, len_205, lenS_205, lenN_205, beql_4, pneq_141, pneq0_141, atomsV, List.length_map]
  exact w_84_5 l hl hR hD l 0 r H nx rfl (Nat.zero_le _) hlen hO hA
/-- The program's text of a block: what is told of it. -/
def okP (b : Block) : Prop := bSm b → bR b → bD b → ∀ (nx0 : Nat) (H0 : T OB) (bp : Nat) (r : List UInt8) (H : T OB) (nx : Nat), r.length + (tB b).length ≤ 1000000 → Out bp nx0 H nx r → Ag nx0 H0 nx H →
    WqR P pl X (evT P pl (.call 50 [ptr bp, b.v] false none H nx)) nx0 H0 (Done bp nx0 (r ++ tB b))
theorem w_85_5 (l : List Block) (hp : ∀ c, c ∈ l → okP c) (hl : l.length < big) (hS : ∀ c, c ∈ l → bSm c) (hR : ∀ c, c ∈ l → bR c) (hD : ∀ c, c ∈ l → bD c) : ∀ (t : List Block) (i : Nat) (r : List UInt8) (H : T OB) (nx : Nat), l.drop i = t → i ≤ l.length → r.length + (tBs t).length + 1 ≤ 1000000 → Out bp nx0 H nx r → Ag nx0 H0 nx H →
    WqR P pl X (.jump (l85_5 (ptr bp) (rowV 4 (l.map Block.v)) (i64 (l.length : Int)) (i64 (i : Int)) H nx)) nx0 H0 (Done bp nx0 (r ++ (tBs t ++ [41]))) := by
  have hbig : big = 1125899906842624 := rfl
  intro t
  induction t with
  | nil =>
    intro i r H nx hd hi hlen hO hA
    have hil := drop_nil hd hi
    refine Wq.jmp (q85_5 ..) (fun _ => rfl) ?_
    simp only [oneCell_int, oneCell_str, oneCell_bool, oneCell_row, oneCell_ep, oneCell_nilp, cond_true, cond_false, optK_some, ldV_int, ldV_str, ldV_bool, ldV_row, ldV_ep, ldV_nilp, rdBin_add, rdBin_sub, rdBin_mul, rdBin_lss, rdBin_leq, rdBin_gtr, rdBin_geq, rdBin_eql, rdBin_neq, rdBin_seql, rdBin_sneq, unV_not, bvK_bool, bK_true, bK_false, Bool.not_true, Bool.not_false, Bool.not_not, rdNil_ep, rdNil_ptr, oneCell_sl, ldV_sl, vEq_self, List.length_nil, Int.cast_ofNat_Int, Int.reduceEq, Int.reduceLT, Int.reduceLE, decide_true, decide_false, eq_self, Bool.and_self, fa_25_0, fa_25_1, fa_25_2, fa_25_3, fa_25_4, fa_25_5, fa_67_0, fa_67_1, fa_67_2, fa_67_3, fa_69_0, fa_69_1, fa_69_2, fa_71_0, fa_71_1, fa_71_2, fa_71_3, fa_95_0, fa_95_1, fa_95_2, fa_102_0, fa_125_0, fa_125_1, fa_125_2, fa_125_3, fa_125_4, fa_145_0, fa_145_1, fa_177_0, fa_177_1, fp_25_0, fp_25_1, fp_25_2, fp_25_3, fp_25_4, fp_25_5, fp_67_0, fp_67_1, fp_67_2, fp_67_3, fp_69_0, fp_69_1, fp_69_2, fp_71_0, fp_71_1, fp_71_2, fp_71_3, fp_102_0, fp_125_0, fp_125_1, fp_125_2, fp_125_3, fp_125_4, fp_177_0, fp_177_1, fp_177_2, fp_177_3, ld_2, ld_3, ld_9, ld_22, ld_23, ld_25, ld_30, ld_63, ld_64, ld_65, ld_67, ld_69, ld_71, ld_100, ld_125, ld_141, ld_177, len_9, len_22, lenS_22, lenN_22, len_23, lenS_23, lenN_23, len_30, lenS_30, lenN_30, len_63, lenS_63, lenN_63, len_64, lenS_64, lenN_64, len_65, lenS_65, lenN_65, len_148, lenS_148, lenN_148, len_205, lenS_205, lenN_205, beql_4, pneq_141, pneq0_141, hil, not_lt_len]
    rw [tBs] at hlen ⊢
    refine Wq.putL [[41]] rfl (by simp) rfl (ft1 _) hO (by simp at hlen ⊢; omega) hA fun _ H2 nx2 hO2 hA2 => ?_
    exact Wq.retR hA2 ⟨rfl, hO2.len (by simp)⟩
  | cons c t ih =>
    intro i r H nx hd hi hlen hO hA
    obtain ⟨hg, hlt, hd'⟩ := drop_cons hd
    have hc : c ∈ l := List.mem_of_getElem? hg
    have hg' : (l.map Block.v)[i]? = some c.v := by simp [hg]
    rw [tBs] at hlen ⊢
    simp only [List.length_cons, List.length_append] at hlen
    have hq := hp c hc (hS c hc) (hR c hc) (hD c hc) nx0 H0 bp
    refine Wq.jmp (q85_5 ..) (fun _ => rfl) ?_
    rw [c.v_eq] at hg' hq
    simp only [oneCell_int, oneCell_str, oneCell_bool, oneCell_row, oneCell_ep, oneCell_nilp, cond_true, cond_false, optK_some, ldV_int, ldV_str, ldV_bool, ldV_row, ldV_ep, ldV_nilp, rdBin_add, rdBin_sub, rdBin_mul, rdBin_lss, rdBin_leq, rdBin_gtr, rdBin_geq, rdBin_eql, rdBin_neq, rdBin_seql, rdBin_sneq, unV_not, bvK_bool, bK_true, bK_false, Bool.not_true, Bool.not_false, Bool.not_not, rdNil_ep, rdNil_ptr, oneCell_sl, ldV_sl, vEq_self, List.length_nil, Int.cast_ofNat_Int, Int.reduceEq, Int.reduceLT, Int.reduceLE, decide_true, decide_false, eq_self, Bool.and_self, fa_25_0, fa_25_1, fa_25_2, fa_25_3, fa_25_4, fa_25_5, fa_67_0, fa_67_1, fa_67_2, fa_67_3, fa_69_0, fa_69_1, fa_69_2, fa_71_0, fa_71_1, fa_71_2, fa_71_3, fa_95_0, fa_95_1, fa_95_2, fa_102_0, fa_125_0, fa_125_1, fa_125_2, fa_125_3, fa_125_4, fa_145_0, fa_145_1, fa_177_0, fa_177_1, fp_25_0, fp_25_1, fp_25_2, fp_25_3, fp_25_4, fp_25_5, fp_67_0, fp_67_1, fp_67_2, fp_67_3, fp_69_0, fp_69_1, fp_69_2, fp_71_0, fp_71_1, fp_71_2, fp_71_3, fp_102_0, fp_125_0, fp_125_1, fp_125_2, fp_125_3, fp_125_4, fp_177_0, fp_177_1, fp_177_2, fp_177_3, ld_2, ld_3, ld_9, ld_22, ld_23, ld_25, ld_30, ld_63, ld_64, ld_65, ld_67, ld_69, ld_71, ld_100, ld_125, ld_141, ld_177, len_9, len_22, lenS_22, lenN_22, len_23, lenS_23, lenN_23, len_30, lenS_30, lenN_30, len_63, lenS_63, lenN_63, len_64, lenS_64, lenN_64, len_65, lenS_65, lenN_65, len_148, lenS_148, lenN_148, len_205, lenS_205, lenN_205, beql_4, pneq_141, pneq0_141, is_lt_len hlt, ix_65 hg']
    refine Wq.varB zero_67 sz_67 rfl rfl rfl hA fun H1 nx1 hA1 hn1 keep1 => ?_
    refine Wq.putL [[32]] rfl (by simp) rfl (ft1 _) (hO.keep hn1 keep1) (by simp; omega) hA1 fun _ H2 nx2 hO2 hA2 => ?_
    refine Wq.callR rfl (hq _ H2 nx2 (by simp; omega) hO2 hA2) fun u H3 nx3 hA3 hu => ?_
    simp only [oneCell_int, oneCell_str, oneCell_bool, oneCell_row, oneCell_ep, oneCell_nilp, cond_true, cond_false, optK_some, ldV_int, ldV_str, ldV_bool, ldV_row, ldV_ep, ldV_nilp, rdBin_add, rdBin_sub, rdBin_mul, rdBin_lss, rdBin_leq, rdBin_gtr, rdBin_geq, rdBin_eql, rdBin_neq, rdBin_seql, rdBin_sneq, unV_not, bvK_bool, bK_true, bK_false, Bool.not_true, Bool.not_false, Bool.not_not, rdNil_ep, rdNil_ptr, oneCell_sl, ldV_sl, vEq_self, List.length_nil, Int.cast_ofNat_Int, Int.reduceEq, Int.reduceLT, Int.reduceLE, decide_true, decide_false, eq_self, Bool.and_self, fa_25_0, fa_25_1, fa_25_2, fa_25_3, fa_25_4, fa_25_5, fa_67_0, fa_67_1, fa_67_2, fa_67_3, fa_69_0, fa_69_1, fa_69_2, fa_71_0, fa_71_1, fa_71_2, fa_71_3, fa_95_0, fa_95_1, fa_95_2, fa_102_0, fa_125_0, fa_125_1, fa_125_2, fa_125_3, fa_125_4, fa_145_0, fa_145_1, fa_177_0, fa_177_1, fp_25_0, fp_25_1, fp_25_2, fp_25_3, fp_25_4, fp_25_5, fp_67_0, fp_67_1, fp_67_2, fp_67_3, fp_69_0, fp_69_1, fp_69_2, fp_71_0, fp_71_1, fp_71_2, fp_71_3, fp_102_0, fp_125_0, fp_125_1, fp_125_2, fp_125_3, fp_125_4, fp_177_0, fp_177_1, fp_177_2, fp_177_3, ld_2, ld_3, ld_9, ld_22, ld_23, ld_25, ld_30, ld_63, ld_64, ld_65, ld_67, ld_69, ld_71, ld_100, ld_125, ld_141, ld_177, len_9, len_22, lenS_22, lenN_22, len_23, lenS_23, lenN_23, len_30, lenS_30, lenN_30, len_63, lenS_63, lenN_63, len_64, lenS_64, lenN_64, len_65, lenS_65, lenN_65, len_148, lenS_148, lenN_148, len_205, lenS_205, lenN_205, beql_4, pneq_141, pneq0_141, wrap_succ (show i < 9223372036854775807 by omega)]
    have := ih (i + 1) _ H3 nx3 hd' (by omega) (by simp; omega) hu.2 hA3
    simpa [List.append_assoc] using this
theorem w_85 {H : T OB} {nx : Nat} {r : List UInt8} (l : List Block) (hp : ∀ c, c ∈ l → okP c) (hl : l.length < big) (hS : ∀ c, c ∈ l → bSm c) (hR : ∀ c, c ∈ l → bR c) (hD : ∀ c, c ∈ l → bD c) (hlen : r.length + (tBs l).length + 1 ≤ 1000000) (hO : Out bp nx0 H nx r) (hA : Ag nx0 H0 nx H) :
    WqR P pl X (evT P pl (.call 85 [ptr bp, rowV 4 (l.map Block.v)] false none H nx)) nx0 H0 (Done bp nx0 (r ++ (tBs l ++ [41]))) := by
  rw [q85]
  simp only [oneCell_int, oneCell_str, oneCell_bool, oneCell_row, oneCell_ep, oneCell_nilp, cond_true, cond_false, optK_some, ldV_int, ldV_str, ldV_bool, ldV_row, ldV_ep, ldV_nilp, rdBin_add, rdBin_sub, rdBin_mul, rdBin_lss, rdBin_leq, rdBin_gtr, rdBin_geq, rdBin_eql, rdBin_neq, rdBin_seql, rdBin_sneq, unV_not, bvK_bool, bK_true, bK_false, Bool.not_true, Bool.not_false, Bool.not_not, rdNil_ep, rdNil_ptr, oneCell_sl, ldV_sl, vEq_self, List.length_nil, Int.cast_ofNat_Int, Int.reduceEq, Int.reduceLT, Int.reduceLE, decide_true, decide_false, eq_self, Bool.and_self, fa_25_0, fa_25_1, fa_25_2, fa_25_3, fa_25_4, fa_25_5, fa_67_0, fa_67_1, fa_67_2, fa_67_3, fa_69_0, fa_69_1, fa_69_2, fa_71_0, fa_71_1, fa_71_2, fa_71_3, fa_95_0, fa_95_1, fa_95_2, fa_102_0, fa_125_0, fa_125_1, fa_125_2, fa_125_3, fa_125_4, fa_145_0, fa_145_1, fa_177_0, fa_177_1, fp_25_0, fp_25_1, fp_25_2, fp_25_3, fp_25_4, fp_25_5, fp_67_0, fp_67_1, fp_67_2, fp_67_3, fp_69_0, fp_69_1, fp_69_2, fp_71_0, fp_71_1, fp_71_2, fp_71_3, fp_102_0, fp_125_0, fp_125_1, fp_125_2, fp_125_3, fp_125_4, fp_177_0, fp_177_1, fp_177_2, fp_177_3, ld_2, ld_3, ld_9, ld_22, ld_23, ld_25, ld_30, ld_63, ld_64, ld_65, ld_67, ld_69, ld_71, ld_100, ld_125, ld_141, ld_177, len_9, len_22, lenS_22, lenN_22, len_23, lenS_23, lenN_23, len_30, lenS_30, lenN_30, len_63, lenS_63, lenN_63, len_64, lenS_64, lenN_64, len_65, lenS_65, lenN_65, len_148, lenS_148, lenN_148, len_205, lenS_205, lenN_205, beql_4, pneq_141, pneq0_141, List.length_map]
  exact w_85_5 l hp hl hS hR hD l 0 r H nx rfl (Nat.zero_le _) hlen hO hA
theorem w_83 {H : T OB} {nx : Nat} {r : List UInt8} (s : Step) (hp : ∀ c, c ∈ s.blocks → okP c) (hS : stSm s) (hR : stR s) (hD : stD s) (hlen : r.length + (tS s).length ≤ 1000000) (hO : Out bp nx0 H nx r) (hA : Ag nx0 H0 nx H) :
    WqR P pl X (evT P pl (.call 83 [ptr bp, s.v] false none H nx)) nx0 H0 (Done bp nx0 (r ++ tS s)) := by
  have hbig : big = 1125899906842624 := rfl
  rw [stSm_iff] at hS
  rw [stR_iff] at hR
  rw [stD_iff] at hD
  have dt := dig_length s.to hR.1
  have dn := dig_length s.n hR.2.1
  have dm := name_length s.n
  rw [tS_eq] at hlen ⊢
  unfold tR at hlen ⊢
  simp only [List.length_append, List.length_singleton] at hlen
  rw [q83]
  have L48 : ∀ (r1 : List UInt8) H1 nx1, r1 = r ++ sT s.k s.to s.n → Out bp nx0 H1 nx1 r1 → Ag nx0 H0 nx1 H1 → WqR P pl X (.jump (l83_48 (ptr bp) (eptrV s.v) H1 nx1)) nx0 H0 (Done bp nx0 (r ++ (sT s.k s.to s.n ++ (tAs s.args ++ (tBs s.blocks ++ [41]))))) := by
    intro r1 H1 nx1 hr1 hO1 hA1
    subst hr1
    refine Wq.jmp (q83_48 ..) (fun _ => rfl) ?_
    simp only [oneCell_int, oneCell_str, oneCell_bool, oneCell_row, oneCell_ep, oneCell_nilp, cond_true, cond_false, optK_some, ldV_int, ldV_str, ldV_bool, ldV_row, ldV_ep, ldV_nilp, rdBin_add, rdBin_sub, rdBin_mul, rdBin_lss, rdBin_leq, rdBin_gtr, rdBin_geq, rdBin_eql, rdBin_neq, rdBin_seql, rdBin_sneq, unV_not, bvK_bool, bK_true, bK_false, Bool.not_true, Bool.not_false, Bool.not_not, rdNil_ep, rdNil_ptr, oneCell_sl, ldV_sl, vEq_self, List.length_nil, Int.cast_ofNat_Int, Int.reduceEq, Int.reduceLT, Int.reduceLE, decide_true, decide_false, eq_self, Bool.and_self, fa_25_0, fa_25_1, fa_25_2, fa_25_3, fa_25_4, fa_25_5, fa_67_0, fa_67_1, fa_67_2, fa_67_3, fa_69_0, fa_69_1, fa_69_2, fa_71_0, fa_71_1, fa_71_2, fa_71_3, fa_95_0, fa_95_1, fa_95_2, fa_102_0, fa_125_0, fa_125_1, fa_125_2, fa_125_3, fa_125_4, fa_145_0, fa_145_1, fa_177_0, fa_177_1, fp_25_0, fp_25_1, fp_25_2, fp_25_3, fp_25_4, fp_25_5, fp_67_0, fp_67_1, fp_67_2, fp_67_3, fp_69_0, fp_69_1, fp_69_2, fp_71_0, fp_71_1, fp_71_2, fp_71_3, fp_102_0, fp_125_0, fp_125_1, fp_125_2, fp_125_3, fp_125_4, fp_177_0, fp_177_1, fp_177_2, fp_177_3, ld_2, ld_3, ld_9, ld_22, ld_23, ld_25, ld_30, ld_63, ld_64, ld_65, ld_67, ld_69, ld_71, ld_100, ld_125, ld_141, ld_177, len_9, len_22, lenS_22, lenN_22, len_23, lenS_23, lenN_23, len_30, lenS_30, lenN_30, len_63, lenS_63, lenN_63, len_64, lenS_64, lenN_64, len_65, lenS_65, lenN_65, len_148, lenS_148, lenN_148, len_205, lenS_205, lenN_205, beql_4, pneq_141, pneq0_141, s.v_eq, atomsV]
    refine Wq.callR rfl (w_84 s.args hS.1 hR.2.2.1 hD.2.1 (by simp; omega) hO1 hA1) fun u H2 nx2 hA2 hu => ?_
    refine Wq.callR rfl (w_85 s.blocks hp hS.2.1 hS.2.2 hR.2.2.2 hD.2.2 (by simp; omega) hu.2 hA2) fun u H3 nx3 hA3 hu => ?_
    exact Wq.retR hA3 ⟨rfl, hu.2.len (by simp)⟩
  have hl2 : (sT s.k s.to s.n).length ≤ 60 := sT_length _ _ _ hR.1 hR.2.1
  refine Wq.natF' hA fun hA => ?_
  have hO : Out bp nx0 H (nx + 1) r := hO.keep (by omega) fun _ _ _ _ q => q
  rw [s.v_eq] at L48 ⊢
  simp only [oneCell_int, oneCell_str, oneCell_bool, oneCell_row, oneCell_ep, oneCell_nilp, cond_true, cond_false, optK_some, ldV_int, ldV_str, ldV_bool, ldV_row, ldV_ep, ldV_nilp, rdBin_add, rdBin_sub, rdBin_mul, rdBin_lss, rdBin_leq, rdBin_gtr, rdBin_geq, rdBin_eql, rdBin_neq, rdBin_seql, rdBin_sneq, unV_not, bvK_bool, bK_true, bK_false, Bool.not_true, Bool.not_false, Bool.not_not, rdNil_ep, rdNil_ptr, oneCell_sl, ldV_sl, vEq_self, List.length_nil, Int.cast_ofNat_Int, Int.reduceEq, Int.reduceLT, Int.reduceLE, decide_true, decide_false, eq_self, Bool.and_self, fa_25_0, fa_25_1, fa_25_2, fa_25_3, fa_25_4, fa_25_5, fa_67_0, fa_67_1, fa_67_2, fa_67_3, fa_69_0, fa_69_1, fa_69_2, fa_71_0, fa_71_1, fa_71_2, fa_71_3, fa_95_0, fa_95_1, fa_95_2, fa_102_0, fa_125_0, fa_125_1, fa_125_2, fa_125_3, fa_125_4, fa_145_0, fa_145_1, fa_177_0, fa_177_1, fp_25_0, fp_25_1, fp_25_2, fp_25_3, fp_25_4, fp_25_5, fp_67_0, fp_67_1, fp_67_2, fp_67_3, fp_69_0, fp_69_1, fp_69_2, fp_71_0, fp_71_1, fp_71_2, fp_71_3, fp_102_0, fp_125_0, fp_125_1, fp_125_2, fp_125_3, fp_125_4, fp_177_0, fp_177_1, fp_177_2, fp_177_3, ld_2, ld_3, ld_9, ld_22, ld_23, ld_25, ld_30, ld_63, ld_64, ld_65, ld_67, ld_69, ld_71, ld_100, ld_125, ld_141, ld_177, len_9, len_22, lenS_22, lenN_22, len_23, lenS_23, lenN_23, len_30, lenS_30, lenN_30, len_63, lenS_63, lenN_63, len_64, lenS_64, lenN_64, len_65, lenS_65, lenN_65, len_148, lenS_148, lenN_148, len_205, lenS_205, lenN_205, beql_4, pneq_141, pneq0_141, atomsV]
  refine Wq.callB (pu_49 s.to hR.1) hA fun H1 nx1 hA1 hn1 keep1 => ?_
  have hO1 := hO.keep hn1 keep1
  rw [rdAdd_txt 9 true [32, 37] (dig s.to) (by simp; omega), optK_some]
  generalize hx : sT s.k s.to s.n = x at hlen L48 hl2 ⊢
  unfold sT at hx
  refine Wq.ite (fun h => ?_) (fun h1 => ?_)
  · rw [if_pos h] at hx; subst hx
    refine Wq.putL [[40, 109, 111, 118, 101], [32, 37] ++ dig s.to] rfl (by simp) rfl (ft2 _ _) hO1 (by simp at hlen ⊢; omega) hA1 fun _ H4 nx4 hO4 hA4 => ?_
    exact L48 _ _ _ (by simp) hO4 hA4
  rw [if_neg h1] at hx
  refine Wq.ite (fun h => ?_) (fun h2 => ?_)
  · rw [if_pos h] at hx; subst hx
    refine Wq.callB (pu_112 s.n) hA1 fun H3 nx3 hA3 hn3 keep3 => ?_
    refine Wq.putL [[40, 112, 114, 105, 109, 32], name s.n, [32, 37] ++ dig s.to] rfl (by simp) rfl (ft3 _ _ _) (hO1.keep hn3 keep3) (by simp at hlen ⊢; omega) hA3 fun _ H4 nx4 hO4 hA4 => ?_
    exact L48 _ _ _ (by simp) hO4 hA4
  rw [if_neg h2] at hx
  refine Wq.ite (fun h => ?_) (fun h3 => ?_)
  · rw [if_pos h] at hx; subst hx
    refine Wq.putL [[40, 109, 97, 107, 101], [32, 37] ++ dig s.to] rfl (by simp) rfl (ft2 _ _) hO1 (by simp at hlen ⊢; omega) hA1 fun _ H4 nx4 hO4 hA4 => ?_
    exact L48 _ _ _ (by simp) hO4 hA4
  rw [if_neg h3] at hx
  refine Wq.ite (fun h => ?_) (fun h4 => ?_)
  · rw [if_pos h] at hx; subst hx
    refine Wq.callB (pu_49 s.n hR.2.1) hA1 fun H3 nx3 hA3 hn3 keep3 => ?_
    refine Wq.putL [[40, 99, 108, 111, 115, 101], [32, 37] ++ dig s.to, [32], dig s.n] rfl (by simp) rfl (ft4 _ _ _ _) (hO1.keep hn3 keep3) (by simp at hlen ⊢; omega) hA3 fun _ H4 nx4 hO4 hA4 => ?_
    exact L48 _ _ _ (by simp) hO4 hA4
  rw [if_neg h4] at hx
  refine Wq.ite (fun h => ?_) (fun h5 => ?_)
  · rw [if_pos h] at hx; subst hx
    refine Wq.callB (pu_49 s.n hR.2.1) hA1 fun H3 nx3 hA3 hn3 keep3 => ?_
    refine Wq.putL [[40, 102, 105, 108, 108, 32], dig s.n] rfl (by simp) rfl (ft2 _ _) (hO1.keep hn3 keep3) (by simp at hlen ⊢; omega) hA3 fun _ H4 nx4 hO4 hA4 => ?_
    exact L48 _ _ _ (by simp) hO4 hA4
  rw [if_neg h5] at hx
  refine Wq.ite (fun h => ?_) (fun h6 => ?_)
  · rw [if_pos h] at hx; subst hx
    refine Wq.callB (pu_49 s.n hR.2.1) hA1 fun H3 nx3 hA3 hn3 keep3 => ?_
    refine Wq.putL [[40, 102, 105, 101, 108, 100], [32, 37] ++ dig s.to, [32], dig s.n] rfl (by simp) rfl (ft4 _ _ _ _) (hO1.keep hn3 keep3) (by simp at hlen ⊢; omega) hA3 fun _ H4 nx4 hO4 hA4 => ?_
    exact L48 _ _ _ (by simp) hO4 hA4
  rw [if_neg h6] at hx
  refine Wq.ite (fun h => ?_) (fun h7 => ?_)
  · rw [if_pos h] at hx; subst hx
    refine Wq.putL [[40, 99, 97, 108, 108], [32, 37] ++ dig s.to] rfl (by simp) rfl (ft2 _ _) hO1 (by simp at hlen ⊢; omega) hA1 fun _ H4 nx4 hO4 hA4 => ?_
    exact L48 _ _ _ (by simp) hO4 hA4
  rw [if_neg h7] at hx
  refine Wq.ite (fun h => ?_) (fun h8 => ?_)
  · rw [if_pos h] at hx; subst hx
    refine Wq.callB (pu_49 s.n hR.2.1) hA1 fun H3 nx3 hA3 hn3 keep3 => ?_
    refine Wq.putL [[40, 112, 117, 116, 32, 36], dig s.n] rfl (by simp) rfl (ft2 _ _) (hO1.keep hn3 keep3) (by simp at hlen ⊢; omega) hA3 fun _ H4 nx4 hO4 hA4 => ?_
    exact L48 _ _ _ (by simp) hO4 hA4
  rw [if_neg h8] at hx
  refine Wq.ite (fun h => ?_) (fun h9 => ?_)
  · rw [if_pos h] at hx; subst hx
    refine Wq.putL [[40, 105, 102], [32, 37] ++ dig s.to] rfl (by simp) rfl (ft2 _ _) hO1 (by simp at hlen ⊢; omega) hA1 fun _ H4 nx4 hO4 hA4 => ?_
    exact L48 _ _ _ (by simp) hO4 hA4
  rw [if_neg h9] at hx
  refine Wq.ite (fun h => ?_) (fun h10 => ?_)
  · subst hx
    refine Wq.callB (pu_49 s.n hR.2.1) hA1 fun H3 nx3 hA3 hn3 keep3 => ?_
    refine Wq.putL [[40, 116, 114, 121], [32, 37] ++ dig s.to, [32, 37], dig s.n] rfl (by simp) rfl (ft4 _ _ _ _) (hO1.keep hn3 keep3) (by simp at hlen ⊢; omega) hA3 fun _ H4 nx4 hO4 hA4 => ?_
    exact L48 _ _ _ (by simp) hO4 hA4
  omega
theorem w_50_9 (b : Block) (l : List Step) (hp : ∀ s, s ∈ l → ∀ c, c ∈ s.blocks → okP c) (hl : l.length < big) (hS : ∀ s, s ∈ l → stSm s) (hR : ∀ s, s ∈ l → stR s) (hD : ∀ s, s ∈ l → stD s) (rest : List UInt8)
    (hend : ∀ (r : List UInt8) (H : T OB) (nx : Nat), r.length + rest.length ≤ 1000000 → Out bp nx0 H nx r → Ag nx0 H0 nx H → WqR P pl X (.jump (l50_9 (ptr bp) (eptrV b.v) (rowV 5 (l.map Step.v)) (i64 (l.length : Int)) (i64 (l.length : Int)) H nx)) nx0 H0 (Done bp nx0 (r ++ rest))) :
    ∀ (t : List Step) (i : Nat) (r : List UInt8) (H : T OB) (nx : Nat), l.drop i = t → i ≤ l.length → r.length + (tSs t).length + rest.length ≤ 1000000 → Out bp nx0 H nx r → Ag nx0 H0 nx H →
    WqR P pl X (.jump (l50_9 (ptr bp) (eptrV b.v) (rowV 5 (l.map Step.v)) (i64 (l.length : Int)) (i64 (i : Int)) H nx)) nx0 H0 (Done bp nx0 (r ++ (tSs t ++ rest))) := by
  have hbig : big = 1125899906842624 := rfl
  intro t
  induction t with
  | nil =>
    intro i r H nx hd hi hlen hO hA
    have hil := drop_nil hd hi
    subst hil
    rw [tSs] at hlen ⊢
    exact hend r H nx (by simp at hlen; omega) hO hA
  | cons s t ih =>
    intro i r H nx hd hi hlen hO hA
    obtain ⟨hg, hlt, hd'⟩ := drop_cons hd
    have hc : s ∈ l := List.mem_of_getElem? hg
    have hg' : (l.map Step.v)[i]? = some s.v := by simp [hg]
    rw [tSs] at hlen ⊢
    simp only [List.length_cons, List.length_append] at hlen
    refine Wq.jmp (q50_9 ..) (fun _ => rfl) ?_
    have w83 : ∀ (H : T OB) (nx : Nat), Out bp nx0 H nx r → Ag nx0 H0 nx H → WqR P pl X (evT P pl (.call 83 [ptr bp, s.v] false none H nx)) nx0 H0 (Done bp nx0 (r ++ tS s)) := fun H nx => w_83 s (hp s hc) (hS s hc) (hR s hc) (hD s hc) (by omega)
    rw [s.v_eq, atomsV] at w83 hg'
    simp only [oneCell_int, oneCell_str, oneCell_bool, oneCell_row, oneCell_ep, oneCell_nilp, cond_true, cond_false, optK_some, ldV_int, ldV_str, ldV_bool, ldV_row, ldV_ep, ldV_nilp, rdBin_add, rdBin_sub, rdBin_mul, rdBin_lss, rdBin_leq, rdBin_gtr, rdBin_geq, rdBin_eql, rdBin_neq, rdBin_seql, rdBin_sneq, unV_not, bvK_bool, bK_true, bK_false, Bool.not_true, Bool.not_false, Bool.not_not, rdNil_ep, rdNil_ptr, oneCell_sl, ldV_sl, vEq_self, List.length_nil, Int.cast_ofNat_Int, Int.reduceEq, Int.reduceLT, Int.reduceLE, decide_true, decide_false, eq_self, Bool.and_self, fa_25_0, fa_25_1, fa_25_2, fa_25_3, fa_25_4, fa_25_5, fa_67_0, fa_67_1, fa_67_2, fa_67_3, fa_69_0, fa_69_1, fa_69_2, fa_71_0, fa_71_1, fa_71_2, fa_71_3, fa_95_0, fa_95_1, fa_95_2, fa_102_0, fa_125_0, fa_125_1, fa_125_2, fa_125_3, fa_125_4, fa_145_0, fa_145_1, fa_177_0, fa_177_1, fp_25_0, fp_25_1, fp_25_2, fp_25_3, fp_25_4, fp_25_5, fp_67_0, fp_67_1, fp_67_2, fp_67_3, fp_69_0, fp_69_1, fp_69_2, fp_71_0, fp_71_1, fp_71_2, fp_71_3, fp_102_0, fp_125_0, fp_125_1, fp_125_2, fp_125_3, fp_125_4, fp_177_0, fp_177_1, fp_177_2, fp_177_3, ld_2, ld_3, ld_9, ld_22, ld_23, ld_25, ld_30, ld_63, ld_64, ld_65, ld_67, ld_69, ld_71, ld_100, ld_125, ld_141, ld_177, len_9, len_22, lenS_22, lenN_22, len_23, lenS_23, lenN_23, len_30, lenS_30, lenN_30, len_63, lenS_63, lenN_63, len_64, lenS_64, lenN_64, len_65, lenS_65, lenN_65, len_148, lenS_148, lenN_148, len_205, lenS_205, lenN_205, beql_4, pneq_141, pneq0_141, is_lt_len hlt, ix_63 hg']
    refine Wq.varB zero_125 sz_125 rfl rfl rfl hA fun H1 nx1 hA1 hn1 keep1 => ?_
    refine Wq.callR rfl (w83 H1 nx1 (hO.keep hn1 keep1) hA1) fun u H3 nx3 hA3 hu => ?_
    refine Wq.putL [[32]] rfl (by simp) rfl (ft1 _) hu.2 (by simp; omega) hA3 fun _ H2 nx2 hO2 hA2 => ?_
    simp only [oneCell_int, oneCell_str, oneCell_bool, oneCell_row, oneCell_ep, oneCell_nilp, cond_true, cond_false, optK_some, ldV_int, ldV_str, ldV_bool, ldV_row, ldV_ep, ldV_nilp, rdBin_add, rdBin_sub, rdBin_mul, rdBin_lss, rdBin_leq, rdBin_gtr, rdBin_geq, rdBin_eql, rdBin_neq, rdBin_seql, rdBin_sneq, unV_not, bvK_bool, bK_true, bK_false, Bool.not_true, Bool.not_false, Bool.not_not, rdNil_ep, rdNil_ptr, oneCell_sl, ldV_sl, vEq_self, List.length_nil, Int.cast_ofNat_Int, Int.reduceEq, Int.reduceLT, Int.reduceLE, decide_true, decide_false, eq_self, Bool.and_self, fa_25_0, fa_25_1, fa_25_2, fa_25_3, fa_25_4, fa_25_5, fa_67_0, fa_67_1, fa_67_2, fa_67_3, fa_69_0, fa_69_1, fa_69_2, fa_71_0, fa_71_1, fa_71_2, fa_71_3, fa_95_0, fa_95_1, fa_95_2, fa_102_0, fa_125_0, fa_125_1, fa_125_2, fa_125_3, fa_125_4, fa_145_0, fa_145_1, fa_177_0, fa_177_1, fp_25_0, fp_25_1, fp_25_2, fp_25_3, fp_25_4, fp_25_5, fp_67_0, fp_67_1, fp_67_2, fp_67_3, fp_69_0, fp_69_1, fp_69_2, fp_71_0, fp_71_1, fp_71_2, fp_71_3, fp_102_0, fp_125_0, fp_125_1, fp_125_2, fp_125_3, fp_125_4, fp_177_0, fp_177_1, fp_177_2, fp_177_3, ld_2, ld_3, ld_9, ld_22, ld_23, ld_25, ld_30, ld_63, ld_64, ld_65, ld_67, ld_69, ld_71, ld_100, ld_125, ld_141, ld_177, len_9, len_22, lenS_22, lenN_22, len_23, lenS_23, lenN_23, len_30, lenS_30, lenN_30, len_63, lenS_63, lenN_63, len_64, lenS_64, lenN_64, len_65, lenS_65, lenN_65, len_148, lenS_148, lenN_148, len_205, lenS_205, lenN_205, beql_4, pneq_141, pneq0_141, wrap_succ (show i < 9223372036854775807 by omega)]
    have := ih (i + 1) _ H2 nx2 hd' (by omega) (by simp; omega) hO2 hA2
    simpa [List.append_assoc] using this
theorem okP_all (b : Block) : okP b := by
  refine Block.ind (p := okP) (fun b hs hb => ?_) b
  intro hS hR hD nx0 H0 bp r H nx hlen hO hA
  have hbig : big = 1125899906842624 := rfl
  rw [bSm_iff] at hS
  rw [bR_iff] at hR
  rw [bD_iff] at hD
  rw [tB_eq] at hlen ⊢
  unfold tR at hlen ⊢
  simp only [List.length_append, List.length_singleton] at hlen
  rw [q50]
  refine Wq.natF' hA fun hA => ?_
  refine Wq.putL [[91, 32]] rfl (by simp) rfl (ft1 _) (hO.keep (by omega) fun _ _ _ _ q => q) (by simp at hlen ⊢; omega) hA fun _ H1 nx1 hO1 hA1 => ?_
  have L36 : ∀ (r1 : List UInt8) H1 nx1, r1.length + (tAs b.args).length + (tBs b.blocks).length + 3 ≤ 1000000 → Out bp nx0 H1 nx1 r1 → Ag nx0 H0 nx1 H1 → WqR P pl X (.jump (l50_36 (ptr bp) (eptrV b.v) H1 nx1)) nx0 H0 (Done bp nx0 (r1 ++ (tAs b.args ++ (tBs b.blocks ++ [41]) ++ [32, 93]))) := by
    intro r1 H1 nx1 hl1 hO1 hA1
    refine Wq.jmp (q50_36 ..) (fun _ => rfl) ?_
    simp only [oneCell_int, oneCell_str, oneCell_bool, oneCell_row, oneCell_ep, oneCell_nilp, cond_true, cond_false, optK_some, ldV_int, ldV_str, ldV_bool, ldV_row, ldV_ep, ldV_nilp, rdBin_add, rdBin_sub, rdBin_mul, rdBin_lss, rdBin_leq, rdBin_gtr, rdBin_geq, rdBin_eql, rdBin_neq, rdBin_seql, rdBin_sneq, unV_not, bvK_bool, bK_true, bK_false, Bool.not_true, Bool.not_false, Bool.not_not, rdNil_ep, rdNil_ptr, oneCell_sl, ldV_sl, vEq_self, List.length_nil, Int.cast_ofNat_Int, Int.reduceEq, Int.reduceLT, Int.reduceLE, decide_true, decide_false, eq_self, Bool.and_self, fa_25_0, fa_25_1, fa_25_2, fa_25_3, fa_25_4, fa_25_5, fa_67_0, fa_67_1, fa_67_2, fa_67_3, fa_69_0, fa_69_1, fa_69_2, fa_71_0, fa_71_1, fa_71_2, fa_71_3, fa_95_0, fa_95_1, fa_95_2, fa_102_0, fa_125_0, fa_125_1, fa_125_2, fa_125_3, fa_125_4, fa_145_0, fa_145_1, fa_177_0, fa_177_1, fp_25_0, fp_25_1, fp_25_2, fp_25_3, fp_25_4, fp_25_5, fp_67_0, fp_67_1, fp_67_2, fp_67_3, fp_69_0, fp_69_1, fp_69_2, fp_71_0, fp_71_1, fp_71_2, fp_71_3, fp_102_0, fp_125_0, fp_125_1, fp_125_2, fp_125_3, fp_125_4, fp_177_0, fp_177_1, fp_177_2, fp_177_3, ld_2, ld_3, ld_9, ld_22, ld_23, ld_25, ld_30, ld_63, ld_64, ld_65, ld_67, ld_69, ld_71, ld_100, ld_125, ld_141, ld_177, len_9, len_22, lenS_22, lenN_22, len_23, lenS_23, lenN_23, len_30, lenS_30, lenN_30, len_63, lenS_63, lenN_63, len_64, lenS_64, lenN_64, len_65, lenS_65, lenN_65, len_148, lenS_148, lenN_148, len_205, lenS_205, lenN_205, beql_4, pneq_141, pneq0_141, b.v_eq, atomsV]
    refine Wq.callR rfl (w_84 b.args hS.2.1 hR.1 hD.2.1 (by omega) hO1 hA1) fun u H2 nx2 hA2 hu => ?_
    refine Wq.callR rfl (w_85 b.blocks hb hS.2.2.1 hS.2.2.2.2 hR.2.2 hD.2.2.2 (by simp; omega) hu.2 hA2) fun u H3 nx3 hA3 hu => ?_
    refine Wq.putL [[32, 93]] rfl (by simp) rfl (ft1 _) hu.2 (by simp; omega) hA3 fun _ H4 nx4 hO4 hA4 => ?_
    exact Wq.retR hA4 ⟨rfl, hO4.len (by simp)⟩
  have hend : ∀ (r : List UInt8) (H : T OB) (nx : Nat), r.length + (eT b.e ++ (tAs b.args ++ (tBs b.blocks ++ [41]) ++ [32, 93])).length ≤ 1000000 → Out bp nx0 H nx r → Ag nx0 H0 nx H →
      WqR P pl X (.jump (l50_9 (ptr bp) (eptrV b.v) (rowV 5 (b.steps.map Step.v)) (i64 (b.steps.length : Int)) (i64 (b.steps.length : Int)) H nx)) nx0 H0 (Done bp nx0 (r ++ (eT b.e ++ (tAs b.args ++ (tBs b.blocks ++ [41]) ++ [32, 93])))) := by
    intro r H nx hl hO hA
    simp only [List.length_append, List.length_cons, List.length_nil] at hl
    refine Wq.jmp (q50_9 ..) (fun _ => rfl) ?_
    simp only [oneCell_int, oneCell_str, oneCell_bool, oneCell_row, oneCell_ep, oneCell_nilp, cond_true, cond_false, optK_some, ldV_int, ldV_str, ldV_bool, ldV_row, ldV_ep, ldV_nilp, rdBin_add, rdBin_sub, rdBin_mul, rdBin_lss, rdBin_leq, rdBin_gtr, rdBin_geq, rdBin_eql, rdBin_neq, rdBin_seql, rdBin_sneq, unV_not, bvK_bool, bK_true, bK_false, Bool.not_true, Bool.not_false, Bool.not_not, rdNil_ep, rdNil_ptr, oneCell_sl, ldV_sl, vEq_self, List.length_nil, Int.cast_ofNat_Int, Int.reduceEq, Int.reduceLT, Int.reduceLE, decide_true, decide_false, eq_self, Bool.and_self, fa_25_0, fa_25_1, fa_25_2, fa_25_3, fa_25_4, fa_25_5, fa_67_0, fa_67_1, fa_67_2, fa_67_3, fa_69_0, fa_69_1, fa_69_2, fa_71_0, fa_71_1, fa_71_2, fa_71_3, fa_95_0, fa_95_1, fa_95_2, fa_102_0, fa_125_0, fa_125_1, fa_125_2, fa_125_3, fa_125_4, fa_145_0, fa_145_1, fa_177_0, fa_177_1, fp_25_0, fp_25_1, fp_25_2, fp_25_3, fp_25_4, fp_25_5, fp_67_0, fp_67_1, fp_67_2, fp_67_3, fp_69_0, fp_69_1, fp_69_2, fp_71_0, fp_71_1, fp_71_2, fp_71_3, fp_102_0, fp_125_0, fp_125_1, fp_125_2, fp_125_3, fp_125_4, fp_177_0, fp_177_1, fp_177_2, fp_177_3, ld_2, ld_3, ld_9, ld_22, ld_23, ld_25, ld_30, ld_63, ld_64, ld_65, ld_67, ld_69, ld_71, ld_100, ld_125, ld_141, ld_177, len_9, len_22, lenS_22, lenN_22, len_23, lenS_23, lenN_23, len_30, lenS_30, lenN_30, len_63, lenS_63, lenN_63, len_64, lenS_64, lenN_64, len_65, lenS_65, lenN_65, len_148, lenS_148, lenN_148, len_205, lenS_205, lenN_205, beql_4, pneq_141, pneq0_141, b.v_eq, not_lt_len]
    rw [← b.v_eq]
    generalize hx : eT b.e = x at hl ⊢
    unfold eT at hx
    refine Wq.ite (fun h => ?_) (fun h1 => ?_)
    · rw [if_pos h] at hx; subst hx
      refine Wq.putL [[40, 114, 101, 116, 117, 114, 110]] rfl (by simp) rfl (ft1 _) hO (by simp at hl ⊢; omega) hA fun _ H4 nx4 hO4 hA4 => ?_
      have q := L36 _ _ _ (by simp at hl ⊢; omega) hO4 hA4
      simpa using q
    rw [if_neg h1] at hx
    refine Wq.ite (fun h => ?_) (fun h2 => ?_)
    · rw [if_pos h] at hx; subst hx
      refine Wq.putL [[40, 116, 97, 105, 108]] rfl (by simp) rfl (ft1 _) hO (by simp at hl ⊢; omega) hA fun _ H4 nx4 hO4 hA4 => ?_
      have q := L36 _ _ _ (by simp at hl ⊢; omega) hO4 hA4
      simpa using q
    rw [if_neg h2] at hx
    refine Wq.ite (fun h => ?_) (fun h3 => ?_)
    · rw [if_pos h] at hx; subst hx
      refine Wq.putL [[40, 114, 97, 105, 115, 101]] rfl (by simp) rfl (ft1 _) hO (by simp at hl ⊢; omega) hA fun _ H4 nx4 hO4 hA4 => ?_
      have q := L36 _ _ _ (by simp at hl ⊢; omega) hO4 hA4
      simpa using q
    rw [if_neg h3] at hx
    refine Wq.ite (fun h => ?_) (fun h4 => ?_)
    · subst hx
      refine Wq.putL [[40, 98, 114, 97, 110, 99, 104]] rfl (by simp) rfl (ft1 _) hO (by simp at hl ⊢; omega) hA fun _ H4 nx4 hO4 hA4 => ?_
      have q := L36 _ _ _ (by simp at hl ⊢; omega) hO4 hA4
      simpa using q
    omega
  have := w_50_9 b b.steps hs hS.1 hS.2.2.2.1 hR.2.1 hD.2.2.1 _ hend b.steps 0 _ H1 nx1 rfl (Nat.zero_le _) (by simp at hlen ⊢; omega) hO1 hA1
  rw [b.v_eq] at this ⊢
  simp only [oneCell_int, oneCell_str, oneCell_bool, oneCell_row, oneCell_ep, oneCell_nilp, cond_true, cond_false, optK_some, ldV_int, ldV_str, ldV_bool, ldV_row, ldV_ep, ldV_nilp, rdBin_add, rdBin_sub, rdBin_mul, rdBin_lss, rdBin_leq, rdBin_gtr, rdBin_geq, rdBin_eql, rdBin_neq, rdBin_seql, rdBin_sneq, unV_not, bvK_bool, bK_true, bK_false, Bool.not_true, Bool.not_false, Bool.not_not, rdNil_ep, rdNil_ptr, oneCell_sl, ldV_sl, vEq_self, List.length_nil, Int.cast_ofNat_Int, Int.reduceEq, Int.reduceLT, Int.reduceLE, decide_true, decide_false, eq_self, Bool.and_self, fa_25_0, fa_25_1, fa_25_2, fa_25_3, fa_25_4, fa_25_5, fa_67_0, fa_67_1, fa_67_2, fa_67_3, fa_69_0, fa_69_1, fa_69_2, fa_71_0, fa_71_1, fa_71_2, fa_71_3, fa_95_0, fa_95_1, fa_95_2, fa_102_0, fa_125_0, fa_125_1, fa_125_2, fa_125_3, fa_125_4, fa_145_0, fa_145_1, fa_177_0, fa_177_1, fp_25_0, fp_25_1, fp_25_2, fp_25_3, fp_25_4, fp_25_5, fp_67_0, fp_67_1, fp_67_2, fp_67_3, fp_69_0, fp_69_1, fp_69_2, fp_71_0, fp_71_1, fp_71_2, fp_71_3, fp_102_0, fp_125_0, fp_125_1, fp_125_2, fp_125_3, fp_125_4, fp_177_0, fp_177_1, fp_177_2, fp_177_3, ld_2, ld_3, ld_9, ld_22, ld_23, ld_25, ld_30, ld_63, ld_64, ld_65, ld_67, ld_69, ld_71, ld_100, ld_125, ld_141, ld_177, len_9, len_22, lenS_22, lenN_22, len_23, lenS_23, lenN_23, len_30, lenS_30, lenN_30, len_63, lenS_63, lenN_63, len_64, lenS_64, lenN_64, len_65, lenS_65, lenN_65, len_148, lenS_148, lenN_148, len_205, lenS_205, lenN_205, beql_4, pneq_141, pneq0_141, List.length_map]
  simpa [List.append_assoc] using this
end
end Go.Proofs.YtfdgoenmdalphaaGreatDoor
