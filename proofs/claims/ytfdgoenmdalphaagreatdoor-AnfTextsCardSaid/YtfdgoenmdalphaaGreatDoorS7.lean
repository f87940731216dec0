/- Which blocks are right. -/
import Derived.Test.YtfdgoenmdalphaaGreatDoorS6
namespace Go.Proofs.YtfdgoenmdalphaaGreatDoor
open Go.Ev Go.RowKit
noncomputable section
set_option maxRecDepth 100000
set_option linter.unusedVariables false
set_option linter.unusedSimpArgs false
def endOk (inner : Bool) (e : Int) (na nb : Nat) : Bool :=
  if e = 1 ∨ e = 3 then decide (na = 1 ∧ nb = 0) else if e = 2 then decide (na = 2 ∧ nb = 0) && !inner else if e = 4 then decide (na = 1 ∧ nb = 2) else false
mutual
def bOk (fs : List Fun) (free locs : Int) (first : Bool) : Bool → List Int → Block → Bool
  | inner, g, .mk ss e ar bs => match ssOk fs free locs first g ss with
    | none => false
    | some g' => ar.all (aOk free locs first g') && (endOk inner e ar.length bs.length && lOk fs free locs first inner g' bs)
def ssOk (fs : List Fun) (free locs : Int) (first : Bool) : List Int → List Step → Option (List Int)
  | g, [] => some g
  | g, s :: l => if stOk fs free locs first g s && sOk fs free locs first g s then ssOk fs free locs first (if s.k = 5 ∨ s.k = 8 then g else s.to :: g) l else none
def sOk (fs : List Fun) (free locs : Int) (first : Bool) : List Int → Step → Bool
  | g, .mk k to n ar bs => l2Ok fs free locs first g (if k = 10 then n :: g else g) bs
def l2Ok (fs : List Fun) (free locs : Int) (first : Bool) : List Int → List Int → List Block → Bool
  | g, h, [] => true
  | g, h, b :: l => bOk fs free locs first true g b && l2Ok fs free locs first h h l
def lOk (fs : List Fun) (free locs : Int) (first : Bool) : Bool → List Int → List Block → Bool
  | inner, g, [] => true
  | inner, g, b :: l => bOk fs free locs first inner g b && lOk fs free locs first inner g l
end
theorem bOk_eq (fs : List Fun) (free locs : Int) (first inner : Bool) (g : List Int) (b : Block) : bOk fs free locs first inner g b = match ssOk fs free locs first g b.steps with
    | none => false
    | some g' => b.args.all (aOk free locs first g') && (endOk inner b.e b.args.length b.blocks.length && lOk fs free locs first inner g' b.blocks) := by
  cases b; rw [bOk]; rfl
theorem sOk_eq (fs : List Fun) (free locs : Int) (first : Bool) (g : List Int) (s : Step) : sOk fs free locs first g s = l2Ok fs free locs first g (if s.k = 10 then s.n :: g else g) s.blocks := by
  cases s; rw [sOk]; rfl
mutual
/-- How many steps there are, however deep. -/
def bC : Block → Nat
  | .mk ss _ _ bs => ssC ss + lC bs
def ssC : List Step → Nat
  | [] => 0
  | s :: l => sC s + ssC l
def sC : Step → Nat
  | .mk _ _ _ _ bs => 1 + lC bs
def lC : List Block → Nat
  | [] => 0
  | b :: l => bC b + lC l
end
theorem bC_eq (b : Block) : bC b = ssC b.steps + lC b.blocks := by cases b; rw [bC]; rfl
theorem sC_eq (s : Step) : sC s = 1 + lC s.blocks := by cases s; rw [sC]; rfl
theorem aOk_rev (free locs : Int) (first : Bool) (g : List Int) : aOk free locs first g.reverse = aOk free locs first g := by
  funext a; simp [aOk]
theorem stOk_rev (fs : List Fun) (free locs : Int) (first : Bool) (g : List Int) (s : Step) : stOk fs free locs first g.reverse s = stOk fs free locs first g s := by
  simp only [stOk, aOk_rev]
theorem nd_blocks (fs : List Fun) (s : Step) : (nd fs s).2 = 0 ∨ (nd fs s).2 = 2 := by unfold nd; grind
theorem stOk_blocks {fs : List Fun} {free locs : Int} {first : Bool} {g : List Int} {s : Step} (h : stOk fs free locs first g s = true) : s.blocks.length = 0 ∨ s.blocks.length = 2 := by
  unfold stOk at h
  split at h
  · cases h
  · have := nd_blocks fs s; omega

theorem pu_38 (fs : List Fun) (k : Nat) (f : Fun) (hf : fs[k]? = some f) (b : Block) : ∀ (gv : Value) (g : List Int) (inner : Bool), IsI gv g.reverse → bSm b → g.length + bC b < 1048576 →
    Pu 38 [funsV fs, i64 k, b.v, gv, .bool inner] (.bool (bOk fs f.free f.locs (decide (k = 0)) inner g b)) := by
  refine Block.ind (p := fun b => ∀ (gv : Value) (g : List Int) (inner : Bool), IsI gv g.reverse → bSm b → g.length + bC b < 1048576 →
    Pu 38 [funsV fs, i64 k, b.v, gv, .bool inner] (.bool (bOk fs f.free f.locs (decide (k = 0)) inner g b))) (fun b hs hb gv g inner hgv hsm hc => ?_) b
  rw [bSm_iff] at hsm
  obtain ⟨h1, h2, h3, h4, h5⟩ := hsm
  have hbig : big = 1125899906842624 := rfl
  rw [bC_eq] at hc
  rw [b.v_eq]
  refine Pure.of rfl fun H nx => ?_
  rw [q38]
  refine Wq.natF' (.refl _ _) fun hA => ?_
  rw [bOk_eq]
  have L42 : ∀ (ok : Bool) (gv : Value) (g : List Int) H1 nx1, IsI gv g.reverse → g.length + lC b.blocks < 1048576 → Ag nx H nx1 H1 → (ok = true ↔ (b.e = 1 ∨ b.e = 3)) →
      Wq P pl X (.jump (l38_42 (funsV fs) (i64 k) gv inner (eptrV b.cells) (i64 b.e) ok H1 nx1)) nx H (.bool (endOk inner b.e b.args.length b.blocks.length && lOk fs f.free f.locs (decide (k = 0)) inner g b.blocks)) := by
    intro ok gv g H1 nx1 hI hlen hA1 hok
    refine Wq.jmp (q38_42 ..) (fun _ => rfl) ?_
    simp only [oneCell_int, oneCell_str, oneCell_bool, oneCell_row, oneCell_ep, oneCell_nilp, cond_true, cond_false, optK_some, ldV_int, ldV_str, ldV_bool, ldV_row, ldV_ep, ldV_nilp, rdBin_add, rdBin_sub, rdBin_mul, rdBin_lss, rdBin_leq, rdBin_gtr, rdBin_geq, rdBin_eql, rdBin_neq, rdBin_seql, rdBin_sneq, unV_not, bvK_bool, bK_true, bK_false, Bool.not_true, Bool.not_false, Bool.not_not, rdNil_ep, rdNil_ptr, oneCell_sl, ldV_sl, vEq_self, List.length_nil, Int.cast_ofNat_Int, Int.reduceEq, Int.reduceLT, Int.reduceLE, decide_true, decide_false, eq_self, Bool.and_self, fa_25_0, fa_25_1, fa_25_2, fa_25_3, fa_25_4, fa_25_5, fa_67_0, fa_67_1, fa_67_2, fa_67_3, fa_69_0, fa_69_1, fa_69_2, fa_71_0, fa_71_1, fa_71_2, fa_71_3, fa_95_0, fa_95_1, fa_95_2, fa_102_0, fa_125_0, fa_125_1, fa_125_2, fa_125_3, fa_125_4, fa_145_0, fa_145_1, fa_177_0, fa_177_1, fp_25_0, fp_25_1, fp_25_2, fp_25_3, fp_25_4, fp_25_5, fp_67_0, fp_67_1, fp_67_2, fp_67_3, fp_69_0, fp_69_1, fp_69_2, fp_71_0, fp_71_1, fp_71_2, fp_71_3, fp_102_0, fp_125_0, fp_125_1, fp_125_2, fp_125_3, fp_125_4, fp_177_0, fp_177_1, fp_177_2, fp_177_3, ld_2, ld_3, ld_9, ld_22, ld_23, ld_25, ld_30, ld_63, ld_64, ld_65, ld_67, ld_69, ld_71, ld_100, ld_125, ld_141, ld_177, len_9, len_22, lenS_22, lenN_22, len_23, lenS_23, lenN_23, len_30, lenS_30, lenN_30, len_63, lenS_63, lenN_63, len_64, lenS_64, lenN_64, len_65, lenS_65, lenN_65, len_148, lenS_148, lenN_148, len_205, lenS_205, lenN_205, beql_4, pneq_141, pneq0_141, atomsV, List.length_map]
    have lnil : b.blocks.length = 0 → lOk fs f.free f.locs (decide (k = 0)) inner g b.blocks = true := fun h => by rw [List.length_eq_zero_iff.1 h, lOk]
    refine Wq.bK (fun h => ?_) (fun h => ?_)
    · have h' := hok.1 h
      refine Wq.ite (fun h1 => ?_) (fun h1 => ?_)
      · by_cases h0 : b.blocks.length = 0
        · exact Wq.retE (by rw [lnil h0, h0, show b.args.length = 1 by omega]; simp [endOk, h']) hA1
        · exact Wq.retE (by simp [endOk, h', h0]) hA1
      · exact Wq.retE (by have : b.args.length ≠ 1 := by omega
                          simp [endOk, h', this]) hA1
    have he : ¬ (b.e = 1 ∨ b.e = 3) := fun q => by have := hok.2 q; rw [this] at h; cases h
    refine Wq.ite (fun h2 => ?_) (fun h2 => ?_)
    · refine Wq.ite (fun h1 => ?_) (fun h1 => ?_)
      · refine Wq.ite (fun h0 => ?_) (fun h0 => ?_)
        · have h0' : b.blocks.length = 0 := by omega
          exact Wq.retE (by rw [lnil h0', h0', show b.args.length = 2 by omega]; simp [endOk, h2]) hA1
        · exact Wq.retE (by have : b.blocks.length ≠ 0 := by omega
                            simp [endOk, h2]; intro _ q; exact absurd (by rw [q]; rfl) this) hA1
      · exact Wq.retE (by have : b.args.length ≠ 2 := by omega
                          simp [endOk, h2, this]) hA1
    refine Wq.ite (fun h4 => ?_) (fun h4 => ?_)
    · refine Wq.ite (fun h1 => ?_) (fun h1 => ?_)
      · have h1' : b.args.length = 1 := by omega
        refine Wq.ite (fun h0 => ?_) (fun h0 => ?_)
        · have h0' : b.blocks.length = 2 := by omega
          obtain ⟨b0, b1, hbl⟩ : ∃ b0 b1, b.blocks = [b0, b1] := by
            match hq : b.blocks, h0' with
            | [x, y], _ => exact ⟨x, y, rfl⟩
          have i0 : rdIndexAddr P 65 (some (rowV 4 (b.blocks.map Block.v))) (some (.int .i64 0)) = some (eptrV b0.cells) := ix_65 (i := 0) (by simp [hbl, b0.v_eq]) _
          have i1 : rdIndexAddr P 65 (some (rowV 4 (b.blocks.map Block.v))) (some (.int .i64 1)) = some (eptrV b1.cells) := ix_65 (i := 1) (by simp [hbl, b1.v_eq]) _
          rw [hbl] at hlen
          simp only [lC] at hlen
          have p0 := hb b0 (by rw [hbl]; simp) gv g inner hI (h5 b0 (by rw [hbl]; simp)) (by omega)
          have p1 := hb b1 (by rw [hbl]; simp) gv g inner hI (h5 b1 (by rw [hbl]; simp)) (by omega)
          rw [b0.v_eq] at p0
          rw [b1.v_eq] at p1
          have er : (endOk inner b.e b.args.length b.blocks.length && lOk fs f.free f.locs (decide (k = 0)) inner g b.blocks) = (bOk fs f.free f.locs (decide (k = 0)) inner g b0 && bOk fs f.free f.locs (decide (k = 0)) inner g b1) := by
            rw [h1', h0', hbl]; simp [endOk, h4, lOk]
          rw [er]
          simp only [oneCell_int, oneCell_str, oneCell_bool, oneCell_row, oneCell_ep, oneCell_nilp, cond_true, cond_false, optK_some, ldV_int, ldV_str, ldV_bool, ldV_row, ldV_ep, ldV_nilp, rdBin_add, rdBin_sub, rdBin_mul, rdBin_lss, rdBin_leq, rdBin_gtr, rdBin_geq, rdBin_eql, rdBin_neq, rdBin_seql, rdBin_sneq, unV_not, bvK_bool, bK_true, bK_false, Bool.not_true, Bool.not_false, Bool.not_not, rdNil_ep, rdNil_ptr, oneCell_sl, ldV_sl, vEq_self, List.length_nil, Int.cast_ofNat_Int, Int.reduceEq, Int.reduceLT, Int.reduceLE, decide_true, decide_false, eq_self, Bool.and_self, fa_25_0, fa_25_1, fa_25_2, fa_25_3, fa_25_4, fa_25_5, fa_67_0, fa_67_1, fa_67_2, fa_67_3, fa_69_0, fa_69_1, fa_69_2, fa_71_0, fa_71_1, fa_71_2, fa_71_3, fa_95_0, fa_95_1, fa_95_2, fa_102_0, fa_125_0, fa_125_1, fa_125_2, fa_125_3, fa_125_4, fa_145_0, fa_145_1, fa_177_0, fa_177_1, fp_25_0, fp_25_1, fp_25_2, fp_25_3, fp_25_4, fp_25_5, fp_67_0, fp_67_1, fp_67_2, fp_67_3, fp_69_0, fp_69_1, fp_69_2, fp_71_0, fp_71_1, fp_71_2, fp_71_3, fp_102_0, fp_125_0, fp_125_1, fp_125_2, fp_125_3, fp_125_4, fp_177_0, fp_177_1, fp_177_2, fp_177_3, ld_2, ld_3, ld_9, ld_22, ld_23, ld_25, ld_30, ld_63, ld_64, ld_65, ld_67, ld_69, ld_71, ld_100, ld_125, ld_141, ld_177, len_9, len_22, lenS_22, lenN_22, len_23, lenS_23, lenN_23, len_30, lenS_30, lenN_30, len_63, lenS_63, lenN_63, len_64, lenS_64, lenN_64, len_65, lenS_65, lenN_65, len_148, lenS_148, lenN_148, len_205, lenS_205, lenN_205, beql_4, pneq_141, pneq0_141, i0]
          refine Wq.call p0 hA1 fun H2 nx2 hA2 => ?_
          simp only [oneCell_int, oneCell_str, oneCell_bool, oneCell_row, oneCell_ep, oneCell_nilp, cond_true, cond_false, optK_some, ldV_int, ldV_str, ldV_bool, ldV_row, ldV_ep, ldV_nilp, rdBin_add, rdBin_sub, rdBin_mul, rdBin_lss, rdBin_leq, rdBin_gtr, rdBin_geq, rdBin_eql, rdBin_neq, rdBin_seql, rdBin_sneq, unV_not, bvK_bool, bK_true, bK_false, Bool.not_true, Bool.not_false, Bool.not_not, rdNil_ep, rdNil_ptr, oneCell_sl, ldV_sl, vEq_self, List.length_nil, Int.cast_ofNat_Int, Int.reduceEq, Int.reduceLT, Int.reduceLE, decide_true, decide_false, eq_self, Bool.and_self, fa_25_0, fa_25_1, fa_25_2, fa_25_3, fa_25_4, fa_25_5, fa_67_0, fa_67_1, fa_67_2, fa_67_3, fa_69_0, fa_69_1, fa_69_2, fa_71_0, fa_71_1, fa_71_2, fa_71_3, fa_95_0, fa_95_1, fa_95_2, fa_102_0, fa_125_0, fa_125_1, fa_125_2, fa_125_3, fa_125_4, fa_145_0, fa_145_1, fa_177_0, fa_177_1, fp_25_0, fp_25_1, fp_25_2, fp_25_3, fp_25_4, fp_25_5, fp_67_0, fp_67_1, fp_67_2, fp_67_3, fp_69_0, fp_69_1, fp_69_2, fp_71_0, fp_71_1, fp_71_2, fp_71_3, fp_102_0, fp_125_0, fp_125_1, fp_125_2, fp_125_3, fp_125_4, fp_177_0, fp_177_1, fp_177_2, fp_177_3, ld_2, ld_3, ld_9, ld_22, ld_23, ld_25, ld_30, ld_63, ld_64, ld_65, ld_67, ld_69, ld_71, ld_100, ld_125, ld_141, ld_177, len_9, len_22, lenS_22, lenN_22, len_23, lenS_23, lenN_23, len_30, lenS_30, lenN_30, len_63, lenS_63, lenN_63, len_64, lenS_64, lenN_64, len_65, lenS_65, lenN_65, len_148, lenS_148, lenN_148, len_205, lenS_205, lenN_205, beql_4, pneq_141, pneq0_141, i1]
          refine Wq.bK (fun h => ?_) (fun h => ?_)
          · rw [h]
            refine Wq.call p1 hA2 fun H3 nx3 hA3 => ?_
            simp only [oneCell_int, oneCell_str, oneCell_bool, oneCell_row, oneCell_ep, oneCell_nilp, cond_true, cond_false, optK_some, ldV_int, ldV_str, ldV_bool, ldV_row, ldV_ep, ldV_nilp, rdBin_add, rdBin_sub, rdBin_mul, rdBin_lss, rdBin_leq, rdBin_gtr, rdBin_geq, rdBin_eql, rdBin_neq, rdBin_seql, rdBin_sneq, unV_not, bvK_bool, bK_true, bK_false, Bool.not_true, Bool.not_false, Bool.not_not, rdNil_ep, rdNil_ptr, oneCell_sl, ldV_sl, vEq_self, List.length_nil, Int.cast_ofNat_Int, Int.reduceEq, Int.reduceLT, Int.reduceLE, decide_true, decide_false, eq_self, Bool.and_self, fa_25_0, fa_25_1, fa_25_2, fa_25_3, fa_25_4, fa_25_5, fa_67_0, fa_67_1, fa_67_2, fa_67_3, fa_69_0, fa_69_1, fa_69_2, fa_71_0, fa_71_1, fa_71_2, fa_71_3, fa_95_0, fa_95_1, fa_95_2, fa_102_0, fa_125_0, fa_125_1, fa_125_2, fa_125_3, fa_125_4, fa_145_0, fa_145_1, fa_177_0, fa_177_1, fp_25_0, fp_25_1, fp_25_2, fp_25_3, fp_25_4, fp_25_5, fp_67_0, fp_67_1, fp_67_2, fp_67_3, fp_69_0, fp_69_1, fp_69_2, fp_71_0, fp_71_1, fp_71_2, fp_71_3, fp_102_0, fp_125_0, fp_125_1, fp_125_2, fp_125_3, fp_125_4, fp_177_0, fp_177_1, fp_177_2, fp_177_3, ld_2, ld_3, ld_9, ld_22, ld_23, ld_25, ld_30, ld_63, ld_64, ld_65, ld_67, ld_69, ld_71, ld_100, ld_125, ld_141, ld_177, len_9, len_22, lenS_22, lenN_22, len_23, lenS_23, lenN_23, len_30, lenS_30, lenN_30, len_63, lenS_63, lenN_63, len_64, lenS_64, lenN_64, len_65, lenS_65, lenN_65, len_148, lenS_148, lenN_148, len_205, lenS_205, lenN_205, beql_4, pneq_141, pneq0_141]
            exact Wq.ret hA3
          · rw [h]; exact Wq.ret hA2
        · exact Wq.retE (by have : b.blocks.length ≠ 2 := by omega
                            simp [endOk, h4, this]) hA1
      · exact Wq.retE (by have : b.args.length ≠ 1 := by omega
                          simp [endOk, h4, this]) hA1
    · exact Wq.retE (by simp [endOk, he, h2, h4]) hA1
  refine Wq.eachI b.steps (fun l (p : Value × List Int) => IsI p.1 p.2.reverse ∧ p.2.length + (ssC l + lC b.blocks) < 1048576) (fun i p H nx => .jump (l38_7 (funsV fs) (i64 k) p.1 inner (eptrV b.cells) (i64 i) H nx))
    (fun l p => .bool (match ssOk fs f.free f.locs (decide (k = 0)) p.2 l with
    | none => false
    | some g' => b.args.all (aOk f.free f.locs (decide (k = 0)) g') && (endOk inner b.e b.args.length b.blocks.length && lOk fs f.free f.locs (decide (k = 0)) inner g' b.blocks))) ?_ ?_ (gv, g) _ _ ⟨hgv, by dsimp only; omega⟩ hA
  · rintro ⟨gv, g⟩ H1 nx1 ⟨hI, hlen⟩ hA
    dsimp only at hI hlen ⊢
    rw [ssOk]
    dsimp only
    refine Wq.jmp (q38_7 ..) (fun _ => rfl) ?_
    simp only [oneCell_int, oneCell_str, oneCell_bool, oneCell_row, oneCell_ep, oneCell_nilp, cond_true, cond_false, optK_some, ldV_int, ldV_str, ldV_bool, ldV_row, ldV_ep, ldV_nilp, rdBin_add, rdBin_sub, rdBin_mul, rdBin_lss, rdBin_leq, rdBin_gtr, rdBin_geq, rdBin_eql, rdBin_neq, rdBin_seql, rdBin_sneq, unV_not, bvK_bool, bK_true, bK_false, Bool.not_true, Bool.not_false, Bool.not_not, rdNil_ep, rdNil_ptr, oneCell_sl, ldV_sl, vEq_self, List.length_nil, Int.cast_ofNat_Int, Int.reduceEq, Int.reduceLT, Int.reduceLE, decide_true, decide_false, eq_self, Bool.and_self, fa_25_0, fa_25_1, fa_25_2, fa_25_3, fa_25_4, fa_25_5, fa_67_0, fa_67_1, fa_67_2, fa_67_3, fa_69_0, fa_69_1, fa_69_2, fa_71_0, fa_71_1, fa_71_2, fa_71_3, fa_95_0, fa_95_1, fa_95_2, fa_102_0, fa_125_0, fa_125_1, fa_125_2, fa_125_3, fa_125_4, fa_145_0, fa_145_1, fa_177_0, fa_177_1, fp_25_0, fp_25_1, fp_25_2, fp_25_3, fp_25_4, fp_25_5, fp_67_0, fp_67_1, fp_67_2, fp_67_3, fp_69_0, fp_69_1, fp_69_2, fp_71_0, fp_71_1, fp_71_2, fp_71_3, fp_102_0, fp_125_0, fp_125_1, fp_125_2, fp_125_3, fp_125_4, fp_177_0, fp_177_1, fp_177_2, fp_177_3, ld_2, ld_3, ld_9, ld_22, ld_23, ld_25, ld_30, ld_63, ld_64, ld_65, ld_67, ld_69, ld_71, ld_100, ld_125, ld_141, ld_177, len_9, len_22, lenS_22, lenN_22, len_23, lenS_23, lenN_23, len_30, lenS_30, lenN_30, len_63, lenS_63, lenN_63, len_64, lenS_64, lenN_64, len_65, lenS_65, lenN_65, len_148, lenS_148, lenN_148, len_205, lenS_205, lenN_205, beql_4, pneq_141, pneq0_141, List.length_map, not_lt_len, atomsV]
    refine Wq.call (pu_63 fs k b.args gv g.reverse f hI hf (by simp [ssC] at hlen ⊢; omega) h2) hA fun H2 nx2 hA2 => ?_
    rw [aOk_rev]
    simp only [oneCell_int, oneCell_str, oneCell_bool, oneCell_row, oneCell_ep, oneCell_nilp, cond_true, cond_false, optK_some, ldV_int, ldV_str, ldV_bool, ldV_row, ldV_ep, ldV_nilp, rdBin_add, rdBin_sub, rdBin_mul, rdBin_lss, rdBin_leq, rdBin_gtr, rdBin_geq, rdBin_eql, rdBin_neq, rdBin_seql, rdBin_sneq, unV_not, bvK_bool, bK_true, bK_false, Bool.not_true, Bool.not_false, Bool.not_not, rdNil_ep, rdNil_ptr, oneCell_sl, ldV_sl, vEq_self, List.length_nil, Int.cast_ofNat_Int, Int.reduceEq, Int.reduceLT, Int.reduceLE, decide_true, decide_false, eq_self, Bool.and_self, fa_25_0, fa_25_1, fa_25_2, fa_25_3, fa_25_4, fa_25_5, fa_67_0, fa_67_1, fa_67_2, fa_67_3, fa_69_0, fa_69_1, fa_69_2, fa_71_0, fa_71_1, fa_71_2, fa_71_3, fa_95_0, fa_95_1, fa_95_2, fa_102_0, fa_125_0, fa_125_1, fa_125_2, fa_125_3, fa_125_4, fa_145_0, fa_145_1, fa_177_0, fa_177_1, fp_25_0, fp_25_1, fp_25_2, fp_25_3, fp_25_4, fp_25_5, fp_67_0, fp_67_1, fp_67_2, fp_67_3, fp_69_0, fp_69_1, fp_69_2, fp_71_0, fp_71_1, fp_71_2, fp_71_3, fp_102_0, fp_125_0, fp_125_1, fp_125_2, fp_125_3, fp_125_4, fp_177_0, fp_177_1, fp_177_2, fp_177_3, ld_2, ld_3, ld_9, ld_22, ld_23, ld_25, ld_30, ld_63, ld_64, ld_65, ld_67, ld_69, ld_71, ld_100, ld_125, ld_141, ld_177, len_9, len_22, lenS_22, lenN_22, len_23, lenS_23, lenN_23, len_30, lenS_30, lenN_30, len_63, lenS_63, lenN_63, len_64, lenS_64, lenN_64, len_65, lenS_65, lenN_65, len_148, lenS_148, lenN_148, len_205, lenS_205, lenN_205, beql_4, pneq_141, pneq0_141]
    cases b.args.all (aOk f.free f.locs (decide (k = 0)) g) with
    | false => exact Wq.ret hA2
    | true =>
      simp only [oneCell_int, oneCell_str, oneCell_bool, oneCell_row, oneCell_ep, oneCell_nilp, cond_true, cond_false, optK_some, ldV_int, ldV_str, ldV_bool, ldV_row, ldV_ep, ldV_nilp, rdBin_add, rdBin_sub, rdBin_mul, rdBin_lss, rdBin_leq, rdBin_gtr, rdBin_geq, rdBin_eql, rdBin_neq, rdBin_seql, rdBin_sneq, unV_not, bvK_bool, bK_true, bK_false, Bool.not_true, Bool.not_false, Bool.not_not, rdNil_ep, rdNil_ptr, oneCell_sl, ldV_sl, vEq_self, List.length_nil, Int.cast_ofNat_Int, Int.reduceEq, Int.reduceLT, Int.reduceLE, decide_true, decide_false, eq_self, Bool.and_self, fa_25_0, fa_25_1, fa_25_2, fa_25_3, fa_25_4, fa_25_5, fa_67_0, fa_67_1, fa_67_2, fa_67_3, fa_69_0, fa_69_1, fa_69_2, fa_71_0, fa_71_1, fa_71_2, fa_71_3, fa_95_0, fa_95_1, fa_95_2, fa_102_0, fa_125_0, fa_125_1, fa_125_2, fa_125_3, fa_125_4, fa_145_0, fa_145_1, fa_177_0, fa_177_1, fp_25_0, fp_25_1, fp_25_2, fp_25_3, fp_25_4, fp_25_5, fp_67_0, fp_67_1, fp_67_2, fp_67_3, fp_69_0, fp_69_1, fp_69_2, fp_71_0, fp_71_1, fp_71_2, fp_71_3, fp_102_0, fp_125_0, fp_125_1, fp_125_2, fp_125_3, fp_125_4, fp_177_0, fp_177_1, fp_177_2, fp_177_3, ld_2, ld_3, ld_9, ld_22, ld_23, ld_25, ld_30, ld_63, ld_64, ld_65, ld_67, ld_69, ld_71, ld_100, ld_125, ld_141, ld_177, len_9, len_22, lenS_22, lenN_22, len_23, lenS_23, lenN_23, len_30, lenS_30, lenN_30, len_63, lenS_63, lenN_63, len_64, lenS_64, lenN_64, len_65, lenS_65, lenN_65, len_148, lenS_148, lenN_148, len_205, lenS_205, lenN_205, beql_4, pneq_141, pneq0_141, Bool.true_and]
      refine Wq.ite (fun h => L42 _ gv g _ _ hI (by omega) hA2 (by simp [h])) (fun h => ?_)
      exact L42 _ gv g _ _ hI (by omega) hA2 (by simp; omega)
  · rintro i s t ⟨gv, g⟩ H1 nx1 hgi hi ht ⟨hI, hlen⟩ hA ih
    have hg' : (b.steps.map Step.v)[i]? = some s.cells := by simp [hgi, s.v_eq]
    have hc : s ∈ b.steps := List.mem_of_getElem? hgi
    have hss := h4 s hc
    have hss' := hss
    rw [stSm_iff] at hss'
    dsimp only at hI hlen ⊢
    simp only [ssC, sC_eq] at hlen
    have p61 := pu_61 fs k s gv g.reverse f hI hf (by simp; omega) hss
    rw [s.v_eq, stOk_rev] at p61
    rw [ssOk]
    have L30 : ∀ (ok : Bool) H1 nx1, Ag nx H nx1 H1 → (ok = true ↔ ¬ (s.k = 5 ∨ s.k = 8)) → Wq P pl X (.jump (l38_30 (funsV fs) (i64 k) gv inner (eptrV b.cells) (i64 i) (eptrV s.cells) ok H1 nx1)) nx H
        (.bool (match ssOk fs f.free f.locs (decide (k = 0)) (if s.k = 5 ∨ s.k = 8 then g else s.to :: g) t with
          | none => false
          | some g' => b.args.all (aOk f.free f.locs (decide (k = 0)) g') && (endOk inner b.e b.args.length b.blocks.length && lOk fs f.free f.locs (decide (k = 0)) inner g' b.blocks))) := by
      intro ok H1 nx1 hA1 hok
      refine Wq.jmp (q38_30 ..) (fun _ => rfl) ?_
      simp only [oneCell_int, oneCell_str, oneCell_bool, oneCell_row, oneCell_ep, oneCell_nilp, cond_true, cond_false, optK_some, ldV_int, ldV_str, ldV_bool, ldV_row, ldV_ep, ldV_nilp, rdBin_add, rdBin_sub, rdBin_mul, rdBin_lss, rdBin_leq, rdBin_gtr, rdBin_geq, rdBin_eql, rdBin_neq, rdBin_seql, rdBin_sneq, unV_not, bvK_bool, bK_true, bK_false, Bool.not_true, Bool.not_false, Bool.not_not, rdNil_ep, rdNil_ptr, oneCell_sl, ldV_sl, vEq_self, List.length_nil, Int.cast_ofNat_Int, Int.reduceEq, Int.reduceLT, Int.reduceLE, decide_true, decide_false, eq_self, Bool.and_self, fa_25_0, fa_25_1, fa_25_2, fa_25_3, fa_25_4, fa_25_5, fa_67_0, fa_67_1, fa_67_2, fa_67_3, fa_69_0, fa_69_1, fa_69_2, fa_71_0, fa_71_1, fa_71_2, fa_71_3, fa_95_0, fa_95_1, fa_95_2, fa_102_0, fa_125_0, fa_125_1, fa_125_2, fa_125_3, fa_125_4, fa_145_0, fa_145_1, fa_177_0, fa_177_1, fp_25_0, fp_25_1, fp_25_2, fp_25_3, fp_25_4, fp_25_5, fp_67_0, fp_67_1, fp_67_2, fp_67_3, fp_69_0, fp_69_1, fp_69_2, fp_71_0, fp_71_1, fp_71_2, fp_71_3, fp_102_0, fp_125_0, fp_125_1, fp_125_2, fp_125_3, fp_125_4, fp_177_0, fp_177_1, fp_177_2, fp_177_3, ld_2, ld_3, ld_9, ld_22, ld_23, ld_25, ld_30, ld_63, ld_64, ld_65, ld_67, ld_69, ld_71, ld_100, ld_125, ld_141, ld_177, len_9, len_22, lenS_22, lenN_22, len_23, lenS_23, lenN_23, len_30, lenS_30, lenN_30, len_63, lenS_63, lenN_63, len_64, lenS_64, lenN_64, len_65, lenS_65, lenN_65, len_148, lenS_148, lenN_148, len_205, lenS_205, lenN_205, beql_4, pneq_141, pneq0_141, wrap_succ (show i < 9223372036854775807 by omega)]
      refine Wq.bK (fun h => ?_) (fun h => ?_)
      · rw [if_neg (hok.1 h)]
        refine Wq.call (pu_62 gv g.reverse s.to hI (by simp; omega)) hA1 fun H2 nx2 hA2 => ?_
        exact ih (ints (g.reverse ++ [s.to]), s.to :: g) _ _ ⟨.inl (by simp), by simp; omega⟩ hA2
      · rw [if_pos (Classical.byContradiction fun q => by have := hok.2 q; rw [this] at h; cases h)]
        exact ih (gv, g) _ _ ⟨hI, by dsimp only; omega⟩ hA1
    have L28 : ∀ H1 nx1, Ag nx H nx1 H1 → Wq P pl X (.jump (l38_28 (funsV fs) (i64 k) gv inner (eptrV b.cells) (i64 i) (eptrV s.cells) H1 nx1)) nx H
        (.bool (match ssOk fs f.free f.locs (decide (k = 0)) (if s.k = 5 ∨ s.k = 8 then g else s.to :: g) t with
          | none => false
          | some g' => b.args.all (aOk f.free f.locs (decide (k = 0)) g') && (endOk inner b.e b.args.length b.blocks.length && lOk fs f.free f.locs (decide (k = 0)) inner g' b.blocks))) := by
      intro H1 nx1 hA1
      refine Wq.jmp (q38_28 ..) (fun _ => rfl) ?_
      simp only [oneCell_int, oneCell_str, oneCell_bool, oneCell_row, oneCell_ep, oneCell_nilp, cond_true, cond_false, optK_some, ldV_int, ldV_str, ldV_bool, ldV_row, ldV_ep, ldV_nilp, rdBin_add, rdBin_sub, rdBin_mul, rdBin_lss, rdBin_leq, rdBin_gtr, rdBin_geq, rdBin_eql, rdBin_neq, rdBin_seql, rdBin_sneq, unV_not, bvK_bool, bK_true, bK_false, Bool.not_true, Bool.not_false, Bool.not_not, rdNil_ep, rdNil_ptr, oneCell_sl, ldV_sl, vEq_self, List.length_nil, Int.cast_ofNat_Int, Int.reduceEq, Int.reduceLT, Int.reduceLE, decide_true, decide_false, eq_self, Bool.and_self, fa_25_0, fa_25_1, fa_25_2, fa_25_3, fa_25_4, fa_25_5, fa_67_0, fa_67_1, fa_67_2, fa_67_3, fa_69_0, fa_69_1, fa_69_2, fa_71_0, fa_71_1, fa_71_2, fa_71_3, fa_95_0, fa_95_1, fa_95_2, fa_102_0, fa_125_0, fa_125_1, fa_125_2, fa_125_3, fa_125_4, fa_145_0, fa_145_1, fa_177_0, fa_177_1, fp_25_0, fp_25_1, fp_25_2, fp_25_3, fp_25_4, fp_25_5, fp_67_0, fp_67_1, fp_67_2, fp_67_3, fp_69_0, fp_69_1, fp_69_2, fp_71_0, fp_71_1, fp_71_2, fp_71_3, fp_102_0, fp_125_0, fp_125_1, fp_125_2, fp_125_3, fp_125_4, fp_177_0, fp_177_1, fp_177_2, fp_177_3, ld_2, ld_3, ld_9, ld_22, ld_23, ld_25, ld_30, ld_63, ld_64, ld_65, ld_67, ld_69, ld_71, ld_100, ld_125, ld_141, ld_177, len_9, len_22, lenS_22, lenN_22, len_23, lenS_23, lenN_23, len_30, lenS_30, lenN_30, len_63, lenS_63, lenN_63, len_64, lenS_64, lenN_64, len_65, lenS_65, lenN_65, len_148, lenS_148, lenN_148, len_205, lenS_205, lenN_205, beql_4, pneq_141, pneq0_141]
      refine Wq.bK (fun h => ?_) (fun h => ?_)
      · exact L30 _ _ _ hA1 (by simp at h; simp [h])
      · exact L30 _ _ _ hA1 (by simp at h; simp [h])
    have L26 : ∀ (bad : Bool) H1 nx1, Ag nx H nx1 H1 → Wq P pl X (.jump (l38_26 (funsV fs) (i64 k) gv inner (eptrV b.cells) (i64 i) (eptrV s.cells) bad H1 nx1)) nx H
        (.bool (match (if bad = false then ssOk fs f.free f.locs (decide (k = 0)) (if s.k = 5 ∨ s.k = 8 then g else s.to :: g) t else none) with
          | none => false
          | some g' => b.args.all (aOk f.free f.locs (decide (k = 0)) g') && (endOk inner b.e b.args.length b.blocks.length && lOk fs f.free f.locs (decide (k = 0)) inner g' b.blocks))) := by
      intro bad H1 nx1 hA1
      refine Wq.jmp (q38_26 ..) (fun _ => rfl) ?_
      simp only [oneCell_int, oneCell_str, oneCell_bool, oneCell_row, oneCell_ep, oneCell_nilp, cond_true, cond_false, optK_some, ldV_int, ldV_str, ldV_bool, ldV_row, ldV_ep, ldV_nilp, rdBin_add, rdBin_sub, rdBin_mul, rdBin_lss, rdBin_leq, rdBin_gtr, rdBin_geq, rdBin_eql, rdBin_neq, rdBin_seql, rdBin_sneq, unV_not, bvK_bool, bK_true, bK_false, Bool.not_true, Bool.not_false, Bool.not_not, rdNil_ep, rdNil_ptr, oneCell_sl, ldV_sl, vEq_self, List.length_nil, Int.cast_ofNat_Int, Int.reduceEq, Int.reduceLT, Int.reduceLE, decide_true, decide_false, eq_self, Bool.and_self, fa_25_0, fa_25_1, fa_25_2, fa_25_3, fa_25_4, fa_25_5, fa_67_0, fa_67_1, fa_67_2, fa_67_3, fa_69_0, fa_69_1, fa_69_2, fa_71_0, fa_71_1, fa_71_2, fa_71_3, fa_95_0, fa_95_1, fa_95_2, fa_102_0, fa_125_0, fa_125_1, fa_125_2, fa_125_3, fa_125_4, fa_145_0, fa_145_1, fa_177_0, fa_177_1, fp_25_0, fp_25_1, fp_25_2, fp_25_3, fp_25_4, fp_25_5, fp_67_0, fp_67_1, fp_67_2, fp_67_3, fp_69_0, fp_69_1, fp_69_2, fp_71_0, fp_71_1, fp_71_2, fp_71_3, fp_102_0, fp_125_0, fp_125_1, fp_125_2, fp_125_3, fp_125_4, fp_177_0, fp_177_1, fp_177_2, fp_177_3, ld_2, ld_3, ld_9, ld_22, ld_23, ld_25, ld_30, ld_63, ld_64, ld_65, ld_67, ld_69, ld_71, ld_100, ld_125, ld_141, ld_177, len_9, len_22, lenS_22, lenN_22, len_23, lenS_23, lenN_23, len_30, lenS_30, lenN_30, len_63, lenS_63, lenN_63, len_64, lenS_64, lenN_64, len_65, lenS_65, lenN_65, len_148, lenS_148, lenN_148, len_205, lenS_205, lenN_205, beql_4, pneq_141, pneq0_141]
      cases bad with
      | true => exact Wq.ret hA1
      | false =>
        simp only [oneCell_int, oneCell_str, oneCell_bool, oneCell_row, oneCell_ep, oneCell_nilp, cond_true, cond_false, optK_some, ldV_int, ldV_str, ldV_bool, ldV_row, ldV_ep, ldV_nilp, rdBin_add, rdBin_sub, rdBin_mul, rdBin_lss, rdBin_leq, rdBin_gtr, rdBin_geq, rdBin_eql, rdBin_neq, rdBin_seql, rdBin_sneq, unV_not, bvK_bool, bK_true, bK_false, Bool.not_true, Bool.not_false, Bool.not_not, rdNil_ep, rdNil_ptr, oneCell_sl, ldV_sl, vEq_self, List.length_nil, Int.cast_ofNat_Int, Int.reduceEq, Int.reduceLT, Int.reduceLE, decide_true, decide_false, eq_self, Bool.and_self, fa_25_0, fa_25_1, fa_25_2, fa_25_3, fa_25_4, fa_25_5, fa_67_0, fa_67_1, fa_67_2, fa_67_3, fa_69_0, fa_69_1, fa_69_2, fa_71_0, fa_71_1, fa_71_2, fa_71_3, fa_95_0, fa_95_1, fa_95_2, fa_102_0, fa_125_0, fa_125_1, fa_125_2, fa_125_3, fa_125_4, fa_145_0, fa_145_1, fa_177_0, fa_177_1, fp_25_0, fp_25_1, fp_25_2, fp_25_3, fp_25_4, fp_25_5, fp_67_0, fp_67_1, fp_67_2, fp_67_3, fp_69_0, fp_69_1, fp_69_2, fp_71_0, fp_71_1, fp_71_2, fp_71_3, fp_102_0, fp_125_0, fp_125_1, fp_125_2, fp_125_3, fp_125_4, fp_177_0, fp_177_1, fp_177_2, fp_177_3, ld_2, ld_3, ld_9, ld_22, ld_23, ld_25, ld_30, ld_63, ld_64, ld_65, ld_67, ld_69, ld_71, ld_100, ld_125, ld_141, ld_177, len_9, len_22, lenS_22, lenN_22, len_23, lenS_23, lenN_23, len_30, lenS_30, lenN_30, len_63, lenS_63, lenN_63, len_64, lenS_64, lenN_64, len_65, lenS_65, lenN_65, len_148, lenS_148, lenN_148, len_205, lenS_205, lenN_205, beql_4, pneq_141, pneq0_141]
        refine Wq.bK (fun h => ?_) (fun h => ?_)
        · exact L30 _ _ _ hA1 (by simp at h; simp [h])
        · exact L30 _ _ _ hA1 (by simp at h; simp [h])
    refine Wq.jmp (q38_7 ..) (fun _ => rfl) ?_
    simp only [oneCell_int, oneCell_str, oneCell_bool, oneCell_row, oneCell_ep, oneCell_nilp, cond_true, cond_false, optK_some, ldV_int, ldV_str, ldV_bool, ldV_row, ldV_ep, ldV_nilp, rdBin_add, rdBin_sub, rdBin_mul, rdBin_lss, rdBin_leq, rdBin_gtr, rdBin_geq, rdBin_eql, rdBin_neq, rdBin_seql, rdBin_sneq, unV_not, bvK_bool, bK_true, bK_false, Bool.not_true, Bool.not_false, Bool.not_not, rdNil_ep, rdNil_ptr, oneCell_sl, ldV_sl, vEq_self, List.length_nil, Int.cast_ofNat_Int, Int.reduceEq, Int.reduceLT, Int.reduceLE, decide_true, decide_false, eq_self, Bool.and_self, fa_25_0, fa_25_1, fa_25_2, fa_25_3, fa_25_4, fa_25_5, fa_67_0, fa_67_1, fa_67_2, fa_67_3, fa_69_0, fa_69_1, fa_69_2, fa_71_0, fa_71_1, fa_71_2, fa_71_3, fa_95_0, fa_95_1, fa_95_2, fa_102_0, fa_125_0, fa_125_1, fa_125_2, fa_125_3, fa_125_4, fa_145_0, fa_145_1, fa_177_0, fa_177_1, fp_25_0, fp_25_1, fp_25_2, fp_25_3, fp_25_4, fp_25_5, fp_67_0, fp_67_1, fp_67_2, fp_67_3, fp_69_0, fp_69_1, fp_69_2, fp_71_0, fp_71_1, fp_71_2, fp_71_3, fp_102_0, fp_125_0, fp_125_1, fp_125_2, fp_125_3, fp_125_4, fp_177_0, fp_177_1, fp_177_2, fp_177_3, ld_2, ld_3, ld_9, ld_22, ld_23, ld_25, ld_30, ld_63, ld_64, ld_65, ld_67, ld_69, ld_71, ld_100, ld_125, ld_141, ld_177, len_9, len_22, lenS_22, lenN_22, len_23, lenS_23, lenN_23, len_30, lenS_30, lenN_30, len_63, lenS_63, lenN_63, len_64, lenS_64, lenN_64, len_65, lenS_65, lenN_65, len_148, lenS_148, lenN_148, len_205, lenS_205, lenN_205, beql_4, pneq_141, pneq0_141, List.length_map, is_lt_len hi, ix_63 hg']
    refine Wq.var zero_125 sz_125 rfl rfl rfl hA fun H2 nx2 hA2 => ?_
    -- x
    refine Wq.call p61 hA2 fun H3 nx3 hA3 => ?_
    cases hst : stOk fs f.free f.locs (decide (k = 0)) g s with
    | false =>
      simp only [oneCell_int, oneCell_str, oneCell_bool, oneCell_row, oneCell_ep, oneCell_nilp, cond_true, cond_false, optK_some, ldV_int, ldV_str, ldV_bool, ldV_row, ldV_ep, ldV_nilp, rdBin_add, rdBin_sub, rdBin_mul, rdBin_lss, rdBin_leq, rdBin_gtr, rdBin_geq, rdBin_eql, rdBin_neq, rdBin_seql, rdBin_sneq, unV_not, bvK_bool, bK_true, bK_false, Bool.not_true, Bool.not_false, Bool.not_not, rdNil_ep, rdNil_ptr, oneCell_sl, ldV_sl, vEq_self, List.length_nil, Int.cast_ofNat_Int, Int.reduceEq, Int.reduceLT, Int.reduceLE, decide_true, decide_false, eq_self, Bool.and_self, fa_25_0, fa_25_1, fa_25_2, fa_25_3, fa_25_4, fa_25_5, fa_67_0, fa_67_1, fa_67_2, fa_67_3, fa_69_0, fa_69_1, fa_69_2, fa_71_0, fa_71_1, fa_71_2, fa_71_3, fa_95_0, fa_95_1, fa_95_2, fa_102_0, fa_125_0, fa_125_1, fa_125_2, fa_125_3, fa_125_4, fa_145_0, fa_145_1, fa_177_0, fa_177_1, fp_25_0, fp_25_1, fp_25_2, fp_25_3, fp_25_4, fp_25_5, fp_67_0, fp_67_1, fp_67_2, fp_67_3, fp_69_0, fp_69_1, fp_69_2, fp_71_0, fp_71_1, fp_71_2, fp_71_3, fp_102_0, fp_125_0, fp_125_1, fp_125_2, fp_125_3, fp_125_4, fp_177_0, fp_177_1, fp_177_2, fp_177_3, ld_2, ld_3, ld_9, ld_22, ld_23, ld_25, ld_30, ld_63, ld_64, ld_65, ld_67, ld_69, ld_71, ld_100, ld_125, ld_141, ld_177, len_9, len_22, lenS_22, lenN_22, len_23, lenS_23, lenN_23, len_30, lenS_30, lenN_30, len_63, lenS_63, lenN_63, len_64, lenS_64, lenN_64, len_65, lenS_65, lenN_65, len_148, lenS_148, lenN_148, len_205, lenS_205, lenN_205, beql_4, pneq_141, pneq0_141]
      exact Wq.retE (by simp) hA3
    | true =>
      simp only [oneCell_int, oneCell_str, oneCell_bool, oneCell_row, oneCell_ep, oneCell_nilp, cond_true, cond_false, optK_some, ldV_int, ldV_str, ldV_bool, ldV_row, ldV_ep, ldV_nilp, rdBin_add, rdBin_sub, rdBin_mul, rdBin_lss, rdBin_leq, rdBin_gtr, rdBin_geq, rdBin_eql, rdBin_neq, rdBin_seql, rdBin_sneq, unV_not, bvK_bool, bK_true, bK_false, Bool.not_true, Bool.not_false, Bool.not_not, rdNil_ep, rdNil_ptr, oneCell_sl, ldV_sl, vEq_self, List.length_nil, Int.cast_ofNat_Int, Int.reduceEq, Int.reduceLT, Int.reduceLE, decide_true, decide_false, eq_self, Bool.and_self, fa_25_0, fa_25_1, fa_25_2, fa_25_3, fa_25_4, fa_25_5, fa_67_0, fa_67_1, fa_67_2, fa_67_3, fa_69_0, fa_69_1, fa_69_2, fa_71_0, fa_71_1, fa_71_2, fa_71_3, fa_95_0, fa_95_1, fa_95_2, fa_102_0, fa_125_0, fa_125_1, fa_125_2, fa_125_3, fa_125_4, fa_145_0, fa_145_1, fa_177_0, fa_177_1, fp_25_0, fp_25_1, fp_25_2, fp_25_3, fp_25_4, fp_25_5, fp_67_0, fp_67_1, fp_67_2, fp_67_3, fp_69_0, fp_69_1, fp_69_2, fp_71_0, fp_71_1, fp_71_2, fp_71_3, fp_102_0, fp_125_0, fp_125_1, fp_125_2, fp_125_3, fp_125_4, fp_177_0, fp_177_1, fp_177_2, fp_177_3, ld_2, ld_3, ld_9, ld_22, ld_23, ld_25, ld_30, ld_63, ld_64, ld_65, ld_67, ld_69, ld_71, ld_100, ld_125, ld_141, ld_177, len_9, len_22, lenS_22, lenN_22, len_23, lenS_23, lenN_23, len_30, lenS_30, lenN_30, len_63, lenS_63, lenN_63, len_64, lenS_64, lenN_64, len_65, lenS_65, lenN_65, len_148, lenS_148, lenN_148, len_205, lenS_205, lenN_205, beql_4, pneq_141, pneq0_141, List.length_map, Bool.true_and]
      rw [sOk_eq]
      refine Wq.ite (fun h2 => ?_) (fun h2 => ?_)
      · obtain ⟨b0, b1, hbl⟩ : ∃ b0 b1, s.blocks = [b0, b1] := by
          match hq : s.blocks, (show s.blocks.length = 2 by omega) with
          | [x, y], _ => exact ⟨x, y, rfl⟩
        have i0 : rdIndexAddr P 65 (some (rowV 4 (s.blocks.map Block.v))) (some (.int .i64 0)) = some (eptrV b0.cells) := ix_65 (i := 0) (by simp [hbl, b0.v_eq]) _
        have i1 : rdIndexAddr P 65 (some (rowV 4 (s.blocks.map Block.v))) (some (.int .i64 1)) = some (eptrV b1.cells) := ix_65 (i := 1) (by simp [hbl, b1.v_eq]) _
        rw [hbl] at hlen
        simp only [lC] at hlen
        have m0 : b0 ∈ s.blocks := by rw [hbl]; simp
        have m1 : b1 ∈ s.blocks := by rw [hbl]; simp
        have L24 : ∀ (hv : Value) H1 nx1, IsI hv (if s.k = 10 then s.n :: g else g).reverse → Ag nx H nx1 H1 → Wq P pl X (.jump (l38_24 (funsV fs) (i64 k) gv inner (eptrV b.cells) (i64 i) (eptrV s.cells) hv H1 nx1)) nx H
            (.bool (match (if l2Ok fs f.free f.locs (decide (k = 0)) g (if s.k = 10 then s.n :: g else g) s.blocks = true then ssOk fs f.free f.locs (decide (k = 0)) (if s.k = 5 ∨ s.k = 8 then g else s.to :: g) t else none) with
              | none => false
              | some g' => b.args.all (aOk f.free f.locs (decide (k = 0)) g') && (endOk inner b.e b.args.length b.blocks.length && lOk fs f.free f.locs (decide (k = 0)) inner g' b.blocks))) := by
          intro hv H1 nx1 hhv hA1
          have p0 := hs s hc b0 m0 gv g true hI (hss'.2.2 b0 m0) (by omega)
          have p1 := hs s hc b1 m1 hv (if s.k = 10 then s.n :: g else g) true hhv (hss'.2.2 b1 m1) (by by_cases q : s.k = 10 <;> simp [q] <;> omega)
          rw [b0.v_eq] at p0
          rw [b1.v_eq] at p1
          refine Wq.jmp (q38_24 ..) (fun _ => rfl) ?_
          simp only [oneCell_int, oneCell_str, oneCell_bool, oneCell_row, oneCell_ep, oneCell_nilp, cond_true, cond_false, optK_some, ldV_int, ldV_str, ldV_bool, ldV_row, ldV_ep, ldV_nilp, rdBin_add, rdBin_sub, rdBin_mul, rdBin_lss, rdBin_leq, rdBin_gtr, rdBin_geq, rdBin_eql, rdBin_neq, rdBin_seql, rdBin_sneq, unV_not, bvK_bool, bK_true, bK_false, Bool.not_true, Bool.not_false, Bool.not_not, rdNil_ep, rdNil_ptr, oneCell_sl, ldV_sl, vEq_self, List.length_nil, Int.cast_ofNat_Int, Int.reduceEq, Int.reduceLT, Int.reduceLE, decide_true, decide_false, eq_self, Bool.and_self, fa_25_0, fa_25_1, fa_25_2, fa_25_3, fa_25_4, fa_25_5, fa_67_0, fa_67_1, fa_67_2, fa_67_3, fa_69_0, fa_69_1, fa_69_2, fa_71_0, fa_71_1, fa_71_2, fa_71_3, fa_95_0, fa_95_1, fa_95_2, fa_102_0, fa_125_0, fa_125_1, fa_125_2, fa_125_3, fa_125_4, fa_145_0, fa_145_1, fa_177_0, fa_177_1, fp_25_0, fp_25_1, fp_25_2, fp_25_3, fp_25_4, fp_25_5, fp_67_0, fp_67_1, fp_67_2, fp_67_3, fp_69_0, fp_69_1, fp_69_2, fp_71_0, fp_71_1, fp_71_2, fp_71_3, fp_102_0, fp_125_0, fp_125_1, fp_125_2, fp_125_3, fp_125_4, fp_177_0, fp_177_1, fp_177_2, fp_177_3, ld_2, ld_3, ld_9, ld_22, ld_23, ld_25, ld_30, ld_63, ld_64, ld_65, ld_67, ld_69, ld_71, ld_100, ld_125, ld_141, ld_177, len_9, len_22, lenS_22, lenN_22, len_23, lenS_23, lenN_23, len_30, lenS_30, lenN_30, len_63, lenS_63, lenN_63, len_64, lenS_64, lenN_64, len_65, lenS_65, lenN_65, len_148, lenS_148, lenN_148, len_205, lenS_205, lenN_205, beql_4, pneq_141, pneq0_141, i0, i1]
          refine Wq.call p0 hA1 fun H2 nx2 hA2 => ?_
          simp only [oneCell_int, oneCell_str, oneCell_bool, oneCell_row, oneCell_ep, oneCell_nilp, cond_true, cond_false, optK_some, ldV_int, ldV_str, ldV_bool, ldV_row, ldV_ep, ldV_nilp, rdBin_add, rdBin_sub, rdBin_mul, rdBin_lss, rdBin_leq, rdBin_gtr, rdBin_geq, rdBin_eql, rdBin_neq, rdBin_seql, rdBin_sneq, unV_not, bvK_bool, bK_true, bK_false, Bool.not_true, Bool.not_false, Bool.not_not, rdNil_ep, rdNil_ptr, oneCell_sl, ldV_sl, vEq_self, List.length_nil, Int.cast_ofNat_Int, Int.reduceEq, Int.reduceLT, Int.reduceLE, decide_true, decide_false, eq_self, Bool.and_self, fa_25_0, fa_25_1, fa_25_2, fa_25_3, fa_25_4, fa_25_5, fa_67_0, fa_67_1, fa_67_2, fa_67_3, fa_69_0, fa_69_1, fa_69_2, fa_71_0, fa_71_1, fa_71_2, fa_71_3, fa_95_0, fa_95_1, fa_95_2, fa_102_0, fa_125_0, fa_125_1, fa_125_2, fa_125_3, fa_125_4, fa_145_0, fa_145_1, fa_177_0, fa_177_1, fp_25_0, fp_25_1, fp_25_2, fp_25_3, fp_25_4, fp_25_5, fp_67_0, fp_67_1, fp_67_2, fp_67_3, fp_69_0, fp_69_1, fp_69_2, fp_71_0, fp_71_1, fp_71_2, fp_71_3, fp_102_0, fp_125_0, fp_125_1, fp_125_2, fp_125_3, fp_125_4, fp_177_0, fp_177_1, fp_177_2, fp_177_3, ld_2, ld_3, ld_9, ld_22, ld_23, ld_25, ld_30, ld_63, ld_64, ld_65, ld_67, ld_69, ld_71, ld_100, ld_125, ld_141, ld_177, len_9, len_22, lenS_22, lenN_22, len_23, lenS_23, lenN_23, len_30, lenS_30, lenN_30, len_63, lenS_63, lenN_63, len_64, lenS_64, lenN_64, len_65, lenS_65, lenN_65, len_148, lenS_148, lenN_148, len_205, lenS_205, lenN_205, beql_4, pneq_141, pneq0_141]
          rw [hbl]
          simp only [l2Ok, Bool.and_true]
          refine Wq.bK (fun h => ?_) (fun h => ?_)
          · have := L26 true _ _ hA2
            rw [if_neg (by simp)] at this
            rw [if_neg (by simp at h; simp [h])]
            exact this
          · simp at h
            rw [h]
            refine Wq.call p1 hA2 fun H3 nx3 hA3 => ?_
            simp only [oneCell_int, oneCell_str, oneCell_bool, oneCell_row, oneCell_ep, oneCell_nilp, cond_true, cond_false, optK_some, ldV_int, ldV_str, ldV_bool, ldV_row, ldV_ep, ldV_nilp, rdBin_add, rdBin_sub, rdBin_mul, rdBin_lss, rdBin_leq, rdBin_gtr, rdBin_geq, rdBin_eql, rdBin_neq, rdBin_seql, rdBin_sneq, unV_not, bvK_bool, bK_true, bK_false, Bool.not_true, Bool.not_false, Bool.not_not, rdNil_ep, rdNil_ptr, oneCell_sl, ldV_sl, vEq_self, List.length_nil, Int.cast_ofNat_Int, Int.reduceEq, Int.reduceLT, Int.reduceLE, decide_true, decide_false, eq_self, Bool.and_self, fa_25_0, fa_25_1, fa_25_2, fa_25_3, fa_25_4, fa_25_5, fa_67_0, fa_67_1, fa_67_2, fa_67_3, fa_69_0, fa_69_1, fa_69_2, fa_71_0, fa_71_1, fa_71_2, fa_71_3, fa_95_0, fa_95_1, fa_95_2, fa_102_0, fa_125_0, fa_125_1, fa_125_2, fa_125_3, fa_125_4, fa_145_0, fa_145_1, fa_177_0, fa_177_1, fp_25_0, fp_25_1, fp_25_2, fp_25_3, fp_25_4, fp_25_5, fp_67_0, fp_67_1, fp_67_2, fp_67_3, fp_69_0, fp_69_1, fp_69_2, fp_71_0, fp_71_1, fp_71_2, fp_71_3, fp_102_0, fp_125_0, fp_125_1, fp_125_2, fp_125_3, fp_125_4, fp_177_0, fp_177_1, fp_177_2, fp_177_3, ld_2, ld_3, ld_9, ld_22, ld_23, ld_25, ld_30, ld_63, ld_64, ld_65, ld_67, ld_69, ld_71, ld_100, ld_125, ld_141, ld_177, len_9, len_22, lenS_22, lenN_22, len_23, lenS_23, lenN_23, len_30, lenS_30, lenN_30, len_63, lenS_63, lenN_63, len_64, lenS_64, lenN_64, len_65, lenS_65, lenN_65, len_148, lenS_148, lenN_148, len_205, lenS_205, lenN_205, beql_4, pneq_141, pneq0_141, Bool.true_and]
            have := L26 (!bOk fs f.free f.locs (decide (k = 0)) true (if s.k = 10 then s.n :: g else g) b1) _ _ hA3
            simpa using this
        refine Wq.ite (fun h10 => ?_) (fun h10 => ?_)
        · refine Wq.call (pu_62 gv g.reverse s.n hI (by simp; omega)) hA3 fun H4 nx4 hA4 => ?_
          exact L24 _ _ _ (.inl (by simp [h10])) hA4
        · exact L24 _ _ _ (by simpa [h10] using hI) hA3
      · have h0 : s.blocks = [] := List.length_eq_zero_iff.1 (by have := stOk_blocks hst; omega)
        have e0 : l2Ok fs f.free f.locs (decide (k = 0)) g (if s.k = 10 then s.n :: g else g) s.blocks = true := by rw [h0, l2Ok]
        simp only [e0, if_true]
        exact L28 _ _ hA3
end
end Go.Proofs.YtfdgoenmdalphaaGreatDoor
