/- How many values an operation takes; what a step needs. -/
import Derived.Test.YtfdgoenmdalphaaGreatDoorS4
namespace Go.Proofs.YtfdgoenmdalphaaGreatDoor
open Go.Ev Go.RowKit
noncomputable section
set_option maxRecDepth 100000
set_option linter.unusedVariables false
set_option linter.unusedSimpArgs false
def tbl : List (List Value) := [[(.string ⟨⟨[]⟩⟩), (.string ⟨⟨[]⟩⟩), (.string ⟨⟨[]⟩⟩), (.string ⟨⟨[]⟩⟩)],
  [(.string ⟨⟨[105, 110, 116]⟩⟩), (.string ⟨⟨[97, 110]⟩⟩), (.string ⟨⟨[]⟩⟩), (.string ⟨⟨[97]⟩⟩)],
  [(.string ⟨⟨[108, 105, 116]⟩⟩), (.string ⟨⟨[97, 110]⟩⟩), (.string ⟨⟨[]⟩⟩), (.string ⟨⟨[97]⟩⟩)],
  [(.string ⟨⟨[109, 111, 118, 101]⟩⟩), (.string ⟨⟨[97, 98]⟩⟩), (.string ⟨⟨[98]⟩⟩), (.string ⟨⟨[97]⟩⟩)],
  [(.string ⟨⟨[112, 117, 116]⟩⟩), (.string ⟨⟨[97, 110]⟩⟩), (.string ⟨⟨[97]⟩⟩), (.string ⟨⟨[]⟩⟩)],
  [(.string ⟨⟨[108, 111, 97, 100]⟩⟩), (.string ⟨⟨[97, 110]⟩⟩), (.string ⟨⟨[]⟩⟩), (.string ⟨⟨[97]⟩⟩)],
  [(.string ⟨⟨[115, 97, 118, 101]⟩⟩), (.string ⟨⟨[97, 110]⟩⟩), (.string ⟨⟨[97]⟩⟩), (.string ⟨⟨[]⟩⟩)],
  [(.string ⟨⟨[97, 100, 100]⟩⟩), (.string ⟨⟨[97, 98, 99]⟩⟩), (.string ⟨⟨[98, 99]⟩⟩), (.string ⟨⟨[97]⟩⟩)],
  [(.string ⟨⟨[115, 117, 98]⟩⟩), (.string ⟨⟨[97, 98, 99]⟩⟩), (.string ⟨⟨[98, 99]⟩⟩), (.string ⟨⟨[97]⟩⟩)],
  [(.string ⟨⟨[109, 117, 108]⟩⟩), (.string ⟨⟨[97, 98, 99]⟩⟩), (.string ⟨⟨[98, 99]⟩⟩), (.string ⟨⟨[97]⟩⟩)],
  [(.string ⟨⟨[100, 105, 118]⟩⟩), (.string ⟨⟨[97, 98, 99]⟩⟩), (.string ⟨⟨[98, 99]⟩⟩), (.string ⟨⟨[97]⟩⟩)],
  [(.string ⟨⟨[109, 111, 100]⟩⟩), (.string ⟨⟨[97, 98, 99]⟩⟩), (.string ⟨⟨[98, 99]⟩⟩), (.string ⟨⟨[97]⟩⟩)],
  [(.string ⟨⟨[110, 101, 103]⟩⟩), (.string ⟨⟨[97, 98]⟩⟩), (.string ⟨⟨[98]⟩⟩), (.string ⟨⟨[97]⟩⟩)],
  [(.string ⟨⟨[108, 101, 115, 115]⟩⟩), (.string ⟨⟨[97, 98, 99]⟩⟩), (.string ⟨⟨[98, 99]⟩⟩), (.string ⟨⟨[97]⟩⟩)],
  [(.string ⟨⟨[97, 116, 109, 111, 115, 116]⟩⟩), (.string ⟨⟨[97, 98, 99]⟩⟩), (.string ⟨⟨[98, 99]⟩⟩), (.string ⟨⟨[97]⟩⟩)],
  [(.string ⟨⟨[115, 97, 109, 101]⟩⟩), (.string ⟨⟨[97, 98, 99]⟩⟩), (.string ⟨⟨[98, 99]⟩⟩), (.string ⟨⟨[97]⟩⟩)],
  [(.string ⟨⟨[116, 117, 112, 108, 101]⟩⟩), (.string ⟨⟨[97, 110]⟩⟩), (.string ⟨⟨[]⟩⟩), (.string ⟨⟨[97]⟩⟩)],
  [(.string ⟨⟨[99, 108, 111, 115, 117, 114, 101]⟩⟩), (.string ⟨⟨[97, 110]⟩⟩), (.string ⟨⟨[]⟩⟩), (.string ⟨⟨[97]⟩⟩)],
  [(.string ⟨⟨[114, 101, 102]⟩⟩), (.string ⟨⟨[97, 98]⟩⟩), (.string ⟨⟨[98]⟩⟩), (.string ⟨⟨[97]⟩⟩)],
  [(.string ⟨⟨[102, 105, 101, 108, 100]⟩⟩), (.string ⟨⟨[97, 98, 110]⟩⟩), (.string ⟨⟨[98]⟩⟩), (.string ⟨⟨[97]⟩⟩)],
  [(.string ⟨⟨[102, 105, 108, 108]⟩⟩), (.string ⟨⟨[97, 98, 110]⟩⟩), (.string ⟨⟨[97, 98]⟩⟩), (.string ⟨⟨[]⟩⟩)],
  [(.string ⟨⟨[97, 115, 115, 105, 103, 110]⟩⟩), (.string ⟨⟨[97, 98]⟩⟩), (.string ⟨⟨[97, 98]⟩⟩), (.string ⟨⟨[]⟩⟩)],
  [(.string ⟨⟨[116, 97, 103]⟩⟩), (.string ⟨⟨[97, 98]⟩⟩), (.string ⟨⟨[98]⟩⟩), (.string ⟨⟨[97]⟩⟩)],
  [(.string ⟨⟨[106, 117, 109, 112]⟩⟩), (.string ⟨⟨[110]⟩⟩), (.string ⟨⟨[]⟩⟩), (.string ⟨⟨[]⟩⟩)],
  [(.string ⟨⟨[117, 110, 108, 101, 115, 115]⟩⟩), (.string ⟨⟨[97, 110]⟩⟩), (.string ⟨⟨[97]⟩⟩), (.string ⟨⟨[]⟩⟩)],
  [(.string ⟨⟨[101, 110, 116, 101, 114]⟩⟩), (.string ⟨⟨[110]⟩⟩), (.string ⟨⟨[]⟩⟩), (.string ⟨⟨[]⟩⟩)],
  [(.string ⟨⟨[99, 97, 108, 108]⟩⟩), (.string ⟨⟨[97, 98]⟩⟩), (.string ⟨⟨[97, 98]⟩⟩), (.string ⟨⟨[48]⟩⟩)],
  [(.string ⟨⟨[116, 97, 105, 108]⟩⟩), (.string ⟨⟨[97, 98]⟩⟩), (.string ⟨⟨[97, 98]⟩⟩), (.string ⟨⟨[]⟩⟩)],
  [(.string ⟨⟨[114, 101, 116, 117, 114, 110]⟩⟩), (.string ⟨⟨[97]⟩⟩), (.string ⟨⟨[97]⟩⟩), (.string ⟨⟨[]⟩⟩)],
  [(.string ⟨⟨[104, 97, 110, 100, 108, 101]⟩⟩), (.string ⟨⟨[110]⟩⟩), (.string ⟨⟨[]⟩⟩), (.string ⟨⟨[]⟩⟩)],
  [(.string ⟨⟨[117, 110, 104, 97, 110, 100, 108, 101]⟩⟩), (.string ⟨⟨[]⟩⟩), (.string ⟨⟨[]⟩⟩), (.string ⟨⟨[]⟩⟩)],
  [(.string ⟨⟨[114, 97, 105, 115, 101]⟩⟩), (.string ⟨⟨[97]⟩⟩), (.string ⟨⟨[97]⟩⟩), (.string ⟨⟨[]⟩⟩)],
  [(.string ⟨⟨[106, 111, 105, 110]⟩⟩), (.string ⟨⟨[97, 98, 99]⟩⟩), (.string ⟨⟨[98, 99]⟩⟩), (.string ⟨⟨[97]⟩⟩)],
  [(.string ⟨⟨[115, 105, 122, 101]⟩⟩), (.string ⟨⟨[97, 98]⟩⟩), (.string ⟨⟨[98]⟩⟩), (.string ⟨⟨[97]⟩⟩)],
  [(.string ⟨⟨[115, 116, 114]⟩⟩), (.string ⟨⟨[97, 98]⟩⟩), (.string ⟨⟨[98]⟩⟩), (.string ⟨⟨[97]⟩⟩)],
  [(.string ⟨⟨[111, 114, 100]⟩⟩), (.string ⟨⟨[97, 98, 99]⟩⟩), (.string ⟨⟨[98, 99]⟩⟩), (.string ⟨⟨[97]⟩⟩)],
  [(.string ⟨⟨[100, 105, 103, 105, 116, 115]⟩⟩), (.string ⟨⟨[97, 98]⟩⟩), (.string ⟨⟨[98]⟩⟩), (.string ⟨⟨[97]⟩⟩)]]

theorem fill_tbl : Instr.fill (fun i => some (i * 4, 4)) (zeroRow [.string ⟨⟨[]⟩⟩, .string ⟨⟨[]⟩⟩, .string ⟨⟨[]⟩⟩, .string ⟨⟨[]⟩⟩] (37 * 4)) (tbl.mapIdx fun i x => (i, .agg ⟨x⟩)) = some ⟨tbl.flatten⟩ := by kernel_rfl
theorem idx_tbl : (tbl.mapIdx fun i x => (i, Value.agg ⟨x⟩)) = (tbl.mapIdx fun i x => (i, Value.agg ⟨x⟩)) := rfl
theorem pu_140 : Pu 140 [] (rowV 4 (tbl.map fun x => .agg ⟨x⟩)) := Pure.of rfl fun H nx => by
  rw [q140]
  refine Wq.row und_205 sz_177 zero_177 rfl fill_tbl (.refl _ _) fun H1 hb1 _ hA1 => ?_
  refine Wq.frz und_205 sz_177 agg_177 rfl hb1 (by kernel_rfl) (by rfl) (chunk_aggs 4 tbl (by decide)) (by kernel_rfl) hA1 (by omega) fun H2 _ hA2 => Wq.ret hA2
/-- How many values an operation takes; 0: none's. -/
def takesOf (n : Int) : Int := if n = 12 ∨ n = 18 ∨ n = 22 ∨ n = 33 ∨ n = 34 ∨ n = 36 then 1 else if (7 ≤ n ∧ n ≤ 15) ∨ n = 21 ∨ n = 32 ∨ n = 35 then 2 else 0
def chk (k : Nat) : Bool := match tbl[k]? with
  | some [.string a, .string b, .string c, .string d] => !(Nat.ble 7 k && Nat.ble k 15 || Nat.beq k 18 || Nat.beq k 22 || Nat.ble 32 k && Nat.ble k 36) || decide ((b.size : Int) - 1 = takesOf k)
  | _ => false
theorem chk_all : (List.range 37).all chk = true := by kernel_rfl
theorem tbl_row (k : Nat) (hk : k < 37) : ∃ a b c d : ByteArray, tbl[k]? = some [.string a, .string b, .string c, .string d] ∧ (7 ≤ k ∧ k ≤ 15 ∨ k = 18 ∨ k = 22 ∨ 32 ≤ k ∧ k ≤ 36 → (b.size : Int) - 1 = takesOf k) := by
  have h := List.all_eq_true.1 chk_all k (List.mem_range.2 hk)
  unfold chk at h
  split at h
  · rename_i a b c d e
    refine ⟨a, b, c, d, e, fun hc => ?_⟩
    have : (Nat.ble 7 k && Nat.ble k 15 || Nat.beq k 18 || Nat.beq k 22 || Nat.ble 32 k && Nat.ble k 36) = true := by
      simp only [Bool.or_eq_true, Bool.and_eq_true, Nat.ble_eq, Nat.beq_eq]
      omega
    rw [this] at h
    simpa using h
  · cases h
theorem pu_114 (k : Nat) (hk : k < 37) (hk1 : 1 ≤ k) : ∃ a b c d : ByteArray, Pu 114 [i64 k] (.tuple ⟨[.agg ⟨[.string a, .string b, .string c, .string d]⟩, .bool true]⟩) ∧ (7 ≤ k ∧ k ≤ 15 ∨ k = 18 ∨ k = 22 ∨ 32 ≤ k ∧ k ≤ 36 → (b.size : Int) - 1 = takesOf k) := by
  obtain ⟨a, b, c, d, hr, hv⟩ := tbl_row k hk
  refine ⟨a, b, c, d, Pure.of rfl fun H nx => ?_, hv⟩
  rw [q114]
  refine Wq.alloc zero_177 (.refl _ _) fun H1 hb1 _ hA1 => ?_
  refine Wq.callB pu_140 hA1 fun H2 nx2 hA2 _ keep => ?_
  have hl : ((tbl.map fun x => Value.agg ⟨x⟩).length : Int) = 37 := by decide
  have c1 : decide ((k : Int) < 1) = false := by simp; omega
  have c2 : decide ((37 : Int) ≤ (k : Int)) = false := by simp; omega
  simp only [oneCell_int, oneCell_str, oneCell_bool, oneCell_row, oneCell_ep, oneCell_nilp, cond_true, cond_false, optK_some, ldV_int, ldV_str, ldV_bool, ldV_row, ldV_ep, ldV_nilp, rdBin_add, rdBin_sub, rdBin_mul, rdBin_lss, rdBin_leq, rdBin_gtr, rdBin_geq, rdBin_eql, rdBin_neq, rdBin_seql, rdBin_sneq, unV_not, bvK_bool, bK_true, bK_false, Bool.not_true, Bool.not_false, Bool.not_not, rdNil_ep, rdNil_ptr, oneCell_sl, ldV_sl, vEq_self, List.length_nil, Int.cast_ofNat_Int, Int.reduceEq, Int.reduceLT, Int.reduceLE, decide_true, decide_false, eq_self, Bool.and_self, fa_25_0, fa_25_1, fa_25_2, fa_25_3, fa_25_4, fa_25_5, fa_67_0, fa_67_1, fa_67_2, fa_67_3, fa_69_0, fa_69_1, fa_69_2, fa_71_0, fa_71_1, fa_71_2, fa_71_3, fa_95_0, fa_95_1, fa_95_2, fa_102_0, fa_125_0, fa_125_1, fa_125_2, fa_125_3, fa_125_4, fa_145_0, fa_145_1, fa_177_0, fa_177_1, fp_25_0, fp_25_1, fp_25_2, fp_25_3, fp_25_4, fp_25_5, fp_67_0, fp_67_1, fp_67_2, fp_67_3, fp_69_0, fp_69_1, fp_69_2, fp_71_0, fp_71_1, fp_71_2, fp_71_3, fp_102_0, fp_125_0, fp_125_1, fp_125_2, fp_125_3, fp_125_4, fp_177_0, fp_177_1, fp_177_2, fp_177_3, ld_2, ld_3, ld_9, ld_22, ld_23, ld_25, ld_30, ld_63, ld_64, ld_65, ld_67, ld_69, ld_71, ld_100, ld_125, ld_141, ld_177, len_9, len_22, lenS_22, lenN_22, len_23, lenS_23, lenN_23, len_30, lenS_30, lenN_30, len_63, lenS_63, lenN_63, len_64, lenS_64, lenN_64, len_65, lenS_65, lenN_65, len_148, lenS_148, lenN_148, len_205, lenS_205, lenN_205, beql_4, pneq_141, pneq0_141, c1, hl, c2]
  refine Wq.jmp (q114_8 ..) (fun _ => rfl) ?_
  have hg : (tbl.map fun x => Value.agg ⟨x⟩)[k]? = some (.agg ⟨[.string a, .string b, .string c, .string d]⟩) := by simp [hr]
  simp only [oneCell_int, oneCell_str, oneCell_bool, oneCell_row, oneCell_ep, oneCell_nilp, cond_true, cond_false, optK_some, ldV_int, ldV_str, ldV_bool, ldV_row, ldV_ep, ldV_nilp, rdBin_add, rdBin_sub, rdBin_mul, rdBin_lss, rdBin_leq, rdBin_gtr, rdBin_geq, rdBin_eql, rdBin_neq, rdBin_seql, rdBin_sneq, unV_not, bvK_bool, bK_true, bK_false, Bool.not_true, Bool.not_false, Bool.not_not, rdNil_ep, rdNil_ptr, oneCell_sl, ldV_sl, vEq_self, List.length_nil, Int.cast_ofNat_Int, Int.reduceEq, Int.reduceLT, Int.reduceLE, decide_true, decide_false, eq_self, Bool.and_self, fa_25_0, fa_25_1, fa_25_2, fa_25_3, fa_25_4, fa_25_5, fa_67_0, fa_67_1, fa_67_2, fa_67_3, fa_69_0, fa_69_1, fa_69_2, fa_71_0, fa_71_1, fa_71_2, fa_71_3, fa_95_0, fa_95_1, fa_95_2, fa_102_0, fa_125_0, fa_125_1, fa_125_2, fa_125_3, fa_125_4, fa_145_0, fa_145_1, fa_177_0, fa_177_1, fp_25_0, fp_25_1, fp_25_2, fp_25_3, fp_25_4, fp_25_5, fp_67_0, fp_67_1, fp_67_2, fp_67_3, fp_69_0, fp_69_1, fp_69_2, fp_71_0, fp_71_1, fp_71_2, fp_71_3, fp_102_0, fp_125_0, fp_125_1, fp_125_2, fp_125_3, fp_125_4, fp_177_0, fp_177_1, fp_177_2, fp_177_3, ld_2, ld_3, ld_9, ld_22, ld_23, ld_25, ld_30, ld_63, ld_64, ld_65, ld_67, ld_69, ld_71, ld_100, ld_125, ld_141, ld_177, len_9, len_22, lenS_22, lenN_22, len_23, lenS_23, lenN_23, len_30, lenS_30, lenN_30, len_63, lenS_63, lenN_63, len_64, lenS_64, lenN_64, len_65, lenS_65, lenN_65, len_148, lenS_148, lenN_148, len_205, lenS_205, lenN_205, beql_4, pneq_141, pneq0_141, ix_205 hg]
  refine Wq.store (keep _ _ _ (by omega) hb1) sz_177 (by simp) rfl rfl hA2 (by omega) fun H3 hb3 _ hA3 => ?_
  have hb3' : IsB H3 nx [.string a, .string b, .string c, .string d] 177 := hb3
  rw [rdLoad_agg hb3' agg_177 sz_177 (by simp)]
  simp only [oneCell_int, oneCell_str, oneCell_bool, oneCell_row, oneCell_ep, oneCell_nilp, cond_true, cond_false, optK_some, ldV_int, ldV_str, ldV_bool, ldV_row, ldV_ep, ldV_nilp, rdBin_add, rdBin_sub, rdBin_mul, rdBin_lss, rdBin_leq, rdBin_gtr, rdBin_geq, rdBin_eql, rdBin_neq, rdBin_seql, rdBin_sneq, unV_not, bvK_bool, bK_true, bK_false, Bool.not_true, Bool.not_false, Bool.not_not, rdNil_ep, rdNil_ptr, oneCell_sl, ldV_sl, vEq_self, List.length_nil, Int.cast_ofNat_Int, Int.reduceEq, Int.reduceLT, Int.reduceLE, decide_true, decide_false, eq_self, Bool.and_self, fa_25_0, fa_25_1, fa_25_2, fa_25_3, fa_25_4, fa_25_5, fa_67_0, fa_67_1, fa_67_2, fa_67_3, fa_69_0, fa_69_1, fa_69_2, fa_71_0, fa_71_1, fa_71_2, fa_71_3, fa_95_0, fa_95_1, fa_95_2, fa_102_0, fa_125_0, fa_125_1, fa_125_2, fa_125_3, fa_125_4, fa_145_0, fa_145_1, fa_177_0, fa_177_1, fp_25_0, fp_25_1, fp_25_2, fp_25_3, fp_25_4, fp_25_5, fp_67_0, fp_67_1, fp_67_2, fp_67_3, fp_69_0, fp_69_1, fp_69_2, fp_71_0, fp_71_1, fp_71_2, fp_71_3, fp_102_0, fp_125_0, fp_125_1, fp_125_2, fp_125_3, fp_125_4, fp_177_0, fp_177_1, fp_177_2, fp_177_3, ld_2, ld_3, ld_9, ld_22, ld_23, ld_25, ld_30, ld_63, ld_64, ld_65, ld_67, ld_69, ld_71, ld_100, ld_125, ld_141, ld_177, len_9, len_22, lenS_22, lenN_22, len_23, lenS_23, lenN_23, len_30, lenS_30, lenN_30, len_63, lenS_63, lenN_63, len_64, lenS_64, lenN_64, len_65, lenS_65, lenN_65, len_148, lenS_148, lenN_148, len_205, lenS_205, lenN_205, beql_4, pneq_141, pneq0_141]
  exact Wq.ret hA3
theorem pu_90 (n : Int) : Pu 90 [i64 n] (i64 (takesOf n)) := Pure.of rfl fun H nx => by
  rw [q90]
  have L : ∀ (ok : Bool), (ok = true ↔ (7 ≤ n ∧ n ≤ 15 ∨ n = 18 ∨ n = 22 ∨ 32 ≤ n ∧ n ≤ 36)) → n ≠ 21 → Wq P pl X (.jump (l90_10 (i64 n) ok H nx)) nx H (i64 (takesOf n)) := by
    intro ok hok h21
    refine Wq.jmp (q90_10 ..) (fun _ => rfl) ?_
    cases ok with
    | false =>
      simp only [oneCell_int, oneCell_str, oneCell_bool, oneCell_row, oneCell_ep, oneCell_nilp, cond_true, cond_false, optK_some, ldV_int, ldV_str, ldV_bool, ldV_row, ldV_ep, ldV_nilp, rdBin_add, rdBin_sub, rdBin_mul, rdBin_lss, rdBin_leq, rdBin_gtr, rdBin_geq, rdBin_eql, rdBin_neq, rdBin_seql, rdBin_sneq, unV_not, bvK_bool, bK_true, bK_false, Bool.not_true, Bool.not_false, Bool.not_not, rdNil_ep, rdNil_ptr, oneCell_sl, ldV_sl, vEq_self, List.length_nil, Int.cast_ofNat_Int, Int.reduceEq, Int.reduceLT, Int.reduceLE, decide_true, decide_false, eq_self, Bool.and_self, fa_25_0, fa_25_1, fa_25_2, fa_25_3, fa_25_4, fa_25_5, fa_67_0, fa_67_1, fa_67_2, fa_67_3, fa_69_0, fa_69_1, fa_69_2, fa_71_0, fa_71_1, fa_71_2, fa_71_3, fa_95_0, fa_95_1, fa_95_2, fa_102_0, fa_125_0, fa_125_1, fa_125_2, fa_125_3, fa_125_4, fa_145_0, fa_145_1, fa_177_0, fa_177_1, fp_25_0, fp_25_1, fp_25_2, fp_25_3, fp_25_4, fp_25_5, fp_67_0, fp_67_1, fp_67_2, fp_67_3, fp_69_0, fp_69_1, fp_69_2, fp_71_0, fp_71_1, fp_71_2, fp_71_3, fp_102_0, fp_125_0, fp_125_1, fp_125_2, fp_125_3, fp_125_4, fp_177_0, fp_177_1, fp_177_2, fp_177_3, ld_2, ld_3, ld_9, ld_22, ld_23, ld_25, ld_30, ld_63, ld_64, ld_65, ld_67, ld_69, ld_71, ld_100, ld_125, ld_141, ld_177, len_9, len_22, lenS_22, lenN_22, len_23, lenS_23, lenN_23, len_30, lenS_30, lenN_30, len_63, lenS_63, lenN_63, len_64, lenS_64, lenN_64, len_65, lenS_65, lenN_65, len_148, lenS_148, lenN_148, len_205, lenS_205, lenN_205, beql_4, pneq_141, pneq0_141]
      have hno : ¬ (7 ≤ n ∧ n ≤ 15 ∨ n = 18 ∨ n = 22 ∨ 32 ≤ n ∧ n ≤ 36) := fun h => by have := hok.2 h; cases this
      exact Wq.retE (by unfold takesOf; rw [if_neg (by omega), if_neg (by omega)]) (.refl _ _)
    | true =>
      simp only [oneCell_int, oneCell_str, oneCell_bool, oneCell_row, oneCell_ep, oneCell_nilp, cond_true, cond_false, optK_some, ldV_int, ldV_str, ldV_bool, ldV_row, ldV_ep, ldV_nilp, rdBin_add, rdBin_sub, rdBin_mul, rdBin_lss, rdBin_leq, rdBin_gtr, rdBin_geq, rdBin_eql, rdBin_neq, rdBin_seql, rdBin_sneq, unV_not, bvK_bool, bK_true, bK_false, Bool.not_true, Bool.not_false, Bool.not_not, rdNil_ep, rdNil_ptr, oneCell_sl, ldV_sl, vEq_self, List.length_nil, Int.cast_ofNat_Int, Int.reduceEq, Int.reduceLT, Int.reduceLE, decide_true, decide_false, eq_self, Bool.and_self, fa_25_0, fa_25_1, fa_25_2, fa_25_3, fa_25_4, fa_25_5, fa_67_0, fa_67_1, fa_67_2, fa_67_3, fa_69_0, fa_69_1, fa_69_2, fa_71_0, fa_71_1, fa_71_2, fa_71_3, fa_95_0, fa_95_1, fa_95_2, fa_102_0, fa_125_0, fa_125_1, fa_125_2, fa_125_3, fa_125_4, fa_145_0, fa_145_1, fa_177_0, fa_177_1, fp_25_0, fp_25_1, fp_25_2, fp_25_3, fp_25_4, fp_25_5, fp_67_0, fp_67_1, fp_67_2, fp_67_3, fp_69_0, fp_69_1, fp_69_2, fp_71_0, fp_71_1, fp_71_2, fp_71_3, fp_102_0, fp_125_0, fp_125_1, fp_125_2, fp_125_3, fp_125_4, fp_177_0, fp_177_1, fp_177_2, fp_177_3, ld_2, ld_3, ld_9, ld_22, ld_23, ld_25, ld_30, ld_63, ld_64, ld_65, ld_67, ld_69, ld_71, ld_100, ld_125, ld_141, ld_177, len_9, len_22, lenS_22, lenN_22, len_23, lenS_23, lenN_23, len_30, lenS_30, lenN_30, len_63, lenS_63, lenN_63, len_64, lenS_64, lenN_64, len_65, lenS_65, lenN_65, len_148, lenS_148, lenN_148, len_205, lenS_205, lenN_205, beql_4, pneq_141, pneq0_141]
      have hyes := hok.1 rfl
      obtain ⟨k, rfl⟩ : ∃ k : Nat, n = k := ⟨n.toNat, by omega⟩
      obtain ⟨a, b, c, d, hp, hv⟩ := pu_114 k (by omega) (by omega)
      refine Wq.call hp (.refl _ _) fun H1 nx1 hA1 => ?_
      have x0 : rdExtract (some (.tuple ⟨[.agg ⟨[.string a, .string b, .string c, .string d]⟩, .bool true]⟩)) 0 = some (.agg ⟨[.string a, .string b, .string c, .string d]⟩) := rfl
      have x1 : rdExtract (some (.tuple ⟨[.agg ⟨[.string a, .string b, .string c, .string d]⟩, .bool true]⟩)) 1 = some (.bool true) := rfl
      simp only [oneCell_int, oneCell_str, oneCell_bool, oneCell_row, oneCell_ep, oneCell_nilp, cond_true, cond_false, optK_some, ldV_int, ldV_str, ldV_bool, ldV_row, ldV_ep, ldV_nilp, rdBin_add, rdBin_sub, rdBin_mul, rdBin_lss, rdBin_leq, rdBin_gtr, rdBin_geq, rdBin_eql, rdBin_neq, rdBin_seql, rdBin_sneq, unV_not, bvK_bool, bK_true, bK_false, Bool.not_true, Bool.not_false, Bool.not_not, rdNil_ep, rdNil_ptr, oneCell_sl, ldV_sl, vEq_self, List.length_nil, Int.cast_ofNat_Int, Int.reduceEq, Int.reduceLT, Int.reduceLE, decide_true, decide_false, eq_self, Bool.and_self, fa_25_0, fa_25_1, fa_25_2, fa_25_3, fa_25_4, fa_25_5, fa_67_0, fa_67_1, fa_67_2, fa_67_3, fa_69_0, fa_69_1, fa_69_2, fa_71_0, fa_71_1, fa_71_2, fa_71_3, fa_95_0, fa_95_1, fa_95_2, fa_102_0, fa_125_0, fa_125_1, fa_125_2, fa_125_3, fa_125_4, fa_145_0, fa_145_1, fa_177_0, fa_177_1, fp_25_0, fp_25_1, fp_25_2, fp_25_3, fp_25_4, fp_25_5, fp_67_0, fp_67_1, fp_67_2, fp_67_3, fp_69_0, fp_69_1, fp_69_2, fp_71_0, fp_71_1, fp_71_2, fp_71_3, fp_102_0, fp_125_0, fp_125_1, fp_125_2, fp_125_3, fp_125_4, fp_177_0, fp_177_1, fp_177_2, fp_177_3, ld_2, ld_3, ld_9, ld_22, ld_23, ld_25, ld_30, ld_63, ld_64, ld_65, ld_67, ld_69, ld_71, ld_100, ld_125, ld_141, ld_177, len_9, len_22, lenS_22, lenN_22, len_23, lenS_23, lenN_23, len_30, lenS_30, lenN_30, len_63, lenS_63, lenN_63, len_64, lenS_64, lenN_64, len_65, lenS_65, lenN_65, len_148, lenS_148, lenN_148, len_205, lenS_205, lenN_205, beql_4, pneq_141, pneq0_141, x0, x1]
      refine Wq.var zero_177 sz_177 rfl rfl rfl hA1 fun H2 nx2 hA2 => ?_
      have hv' := hv (by omega)
      refine Wq.retE ?_ hA2
      have ht : takesOf k = 0 ∨ takesOf k = 1 ∨ takesOf k = 2 := by unfold takesOf; grind
      rw [hv', wrap_id (by omega)]
  simp only [oneCell_int, oneCell_str, oneCell_bool, oneCell_row, oneCell_ep, oneCell_nilp, cond_true, cond_false, optK_some, ldV_int, ldV_str, ldV_bool, ldV_row, ldV_ep, ldV_nilp, rdBin_add, rdBin_sub, rdBin_mul, rdBin_lss, rdBin_leq, rdBin_gtr, rdBin_geq, rdBin_eql, rdBin_neq, rdBin_seql, rdBin_sneq, unV_not, bvK_bool, bK_true, bK_false, Bool.not_true, Bool.not_false, Bool.not_not, rdNil_ep, rdNil_ptr, oneCell_sl, ldV_sl, vEq_self, List.length_nil, Int.cast_ofNat_Int, Int.reduceEq, Int.reduceLT, Int.reduceLE, decide_true, decide_false, eq_self, Bool.and_self, fa_25_0, fa_25_1, fa_25_2, fa_25_3, fa_25_4, fa_25_5, fa_67_0, fa_67_1, fa_67_2, fa_67_3, fa_69_0, fa_69_1, fa_69_2, fa_71_0, fa_71_1, fa_71_2, fa_71_3, fa_95_0, fa_95_1, fa_95_2, fa_102_0, fa_125_0, fa_125_1, fa_125_2, fa_125_3, fa_125_4, fa_145_0, fa_145_1, fa_177_0, fa_177_1, fp_25_0, fp_25_1, fp_25_2, fp_25_3, fp_25_4, fp_25_5, fp_67_0, fp_67_1, fp_67_2, fp_67_3, fp_69_0, fp_69_1, fp_69_2, fp_71_0, fp_71_1, fp_71_2, fp_71_3, fp_102_0, fp_125_0, fp_125_1, fp_125_2, fp_125_3, fp_125_4, fp_177_0, fp_177_1, fp_177_2, fp_177_3, ld_2, ld_3, ld_9, ld_22, ld_23, ld_25, ld_30, ld_63, ld_64, ld_65, ld_67, ld_69, ld_71, ld_100, ld_125, ld_141, ld_177, len_9, len_22, lenS_22, lenN_22, len_23, lenS_23, lenN_23, len_30, lenS_30, lenN_30, len_63, lenS_63, lenN_63, len_64, lenS_64, lenN_64, len_65, lenS_65, lenN_65, len_148, lenS_148, lenN_148, len_205, lenS_205, lenN_205, beql_4, pneq_141, pneq0_141]
  refine Wq.ite (fun h => ?_) (fun h => ?_)
  · subst h; exact Wq.ret (.refl _ _)
  repeat' (first | (refine Wq.ite (fun _ => ?_) (fun _ => ?_)))
  all_goals exact L _ (by simp; omega) h
end
end Go.Proofs.YtfdgoenmdalphaaGreatDoor
