/- Numbers as texts. -/
import Derived.Test.YtfdgoenmdalphaaGreatDoorS13
import Derived.Test.YtfdgoenmdalphaaGreatDoorQU
namespace Go.Proofs.YtfdgoenmdalphaaGreatDoor
open Go.Ev Go.RowKit
noncomputable section
set_option maxRecDepth 100000
set_option linter.unusedVariables false
set_option linter.unusedSimpArgs false
/-- Digits ahead of others. -/
def dgA (u : Nat) (s : List UInt8) : List UInt8 := if u < 10 then (48 + u).toUInt8 :: s else dgA (u / 10) ((48 + u % 10).toUInt8 :: s)
termination_by u
decreasing_by omega
theorem dgA_length (k : Nat) : ∀ (u : Nat) (s : List UInt8), u < 10 ^ (k + 1) → (dgA u s).length ≤ s.length + k + 1 ∧ s.length < (dgA u s).length := by
  induction k with
  | zero =>
    intro u s h
    rw [dgA, if_pos (by simpa using h)]
    simp
  | succ k ih =>
    intro u s h
    rw [dgA]
    split
    · simp
    · have := ih (u / 10) ((48 + u % 10).toUInt8 :: s) (by rw [Nat.div_lt_iff_lt_mul (by omega)]; rw [Nat.pow_succ] at h; omega)
      simp only [List.length_cons] at this ⊢
      omega
/-- A number's text. -/
def dig (n : Int) : List UInt8 := if n < 0 then 45 :: dgA n.natAbs [] else dgA n.natAbs []
theorem dig_length (n : Int) (h : -9223372036854775808 ≤ n ∧ n < 9223372036854775808) : (dig n).length ≤ 20 := by
  have := (dgA_length 18 n.natAbs [] (by have : (10:Nat) ^ (18 + 1) = 10000000000000000000 := by decide
                                         omega)).1
  unfold dig
  split <;> simp only [List.length_cons, List.length_nil] at this ⊢ <;> omega
theorem p19 : (10:Nat) ^ (18 + 1) = 10000000000000000000 := by decide
theorem p19' : (10:Nat) ^ 19 = 10000000000000000000 := by decide
theorem zero_5 : zeroC P 5 = some [.int .u8 0] := by kernel_rfl
theorem fb1 (a0 : Int) : Instr.fill (fun i => some (i * 1, 1)) (zeroRow [.int .u8 0] (1 * 1)) [(0, .int .u8 a0)] = some ⟨[.int .u8 a0]⟩ := by kernel_rfl
theorem fb2 (a0 a1 : Int) : Instr.fill (fun i => some (i * 1, 1)) (zeroRow [.int .u8 0] (2 * 1)) [(0, .int .u8 a0), (1, .int .u8 a1)] = some ⟨[.int .u8 a0, .int .u8 a1]⟩ := by kernel_rfl
theorem fb4 (a0 a1 a2 a3 : Int) : Instr.fill (fun i => some (i * 1, 1)) (zeroRow [.int .u8 0] (4 * 1)) [(0, .int .u8 a0), (1, .int .u8 a1), (2, .int .u8 a2), (3, .int .u8 a3)] = some ⟨[.int .u8 a0, .int .u8 a1, .int .u8 a2, .int .u8 a3]⟩ := by kernel_rfl
theorem ft1 (a0 : ByteArray) : Instr.fill (fun i => some (i * 1, 1)) (zeroRow [.string E0] (1 * 1)) [(0, .string a0)] = some ⟨[.string a0]⟩ := by kernel_rfl
theorem ft2 (a0 a1 : ByteArray) : Instr.fill (fun i => some (i * 1, 1)) (zeroRow [.string E0] (2 * 1)) [(0, .string a0), (1, .string a1)] = some ⟨[.string a0, .string a1]⟩ := by kernel_rfl
theorem ft3 (a0 a1 a2 : ByteArray) : Instr.fill (fun i => some (i * 1, 1)) (zeroRow [.string E0] (3 * 1)) [(0, .string a0), (1, .string a1), (2, .string a2)] = some ⟨[.string a0, .string a1, .string a2]⟩ := by kernel_rfl
theorem ft4 (a0 a1 a2 a3 : ByteArray) : Instr.fill (fun i => some (i * 1, 1)) (zeroRow [.string E0] (4 * 1)) [(0, .string a0), (1, .string a1), (2, .string a2), (3, .string a3)] = some ⟨[.string a0, .string a1, .string a2, .string a3]⟩ := by kernel_rfl
theorem ft5 (a0 a1 a2 a3 a4 : ByteArray) : Instr.fill (fun i => some (i * 1, 1)) (zeroRow [.string E0] (5 * 1)) [(0, .string a0), (1, .string a1), (2, .string a2), (3, .string a3), (4, .string a4)] = some ⟨[.string a0, .string a1, .string a2, .string a3, .string a4]⟩ := by kernel_rfl
theorem und_2 : P.underlying 2 = some (.int .i64) := by kernel_rfl
theorem und_173 : P.underlying 173 = some (.int .u64) := by kernel_rfl
theorem und_5 : P.underlying 5 = some (.int .u8) := by kernel_rfl
theorem und_9 : P.underlying 9 = some .string := by kernel_rfl
theorem und_174 : P.underlying 174 = some (.array 20 5) := by kernel_rfl
theorem bytes_100 : isBytesT P 100 9 = true := by kernel_rfl
theorem cv_2_173 (H : T OB) (n : Int) : rdConv P H 2 173 (some (i64 n)) = some (.int .u64 (IntKind.u64.wrap n)) := rdConv_int und_2 und_173
theorem cv_173_5 (H : T OB) (n : Int) : rdConv P H 173 5 (some (.int .u64 n)) = some (.int .u8 (IntKind.u8.wrap n)) := rdConv_int und_173 und_5
theorem cv_2_5 (H : T OB) (n : Int) : rdConv P H 2 5 (some (i64 n)) = some (.int .u8 (IntKind.u8.wrap n)) := rdConv_int und_2 und_5
theorem wrap_u64 (n : Int) : IntKind.u64.wrap n = n % 18446744073709551616 := by
  unfold IntKind.wrap
  simp [IntKind.bits, IntKind.signed]
theorem wrap_u8 (n : Int) : IntKind.u8.wrap n = n % 256 := by
  unfold IntKind.wrap
  simp [IntKind.bits, IntKind.signed]
theorem ix_174 {b off i : Nat} (h : i < 20) (k : IntKind) : rdIndexAddr P 174 (some (.pointer (some ⟨b, off, none⟩))) (some (.int k (i : Int))) = some (.pointer (some ⟨b, off + i, none⟩)) := by
  have := rdIndex_arr (P := P) (b := b) (off := off) und_174 sz_5 h k
  rwa [Nat.mul_one] at this
theorem sl_174 {H : T OB} {b off i : Nat} (h : i < 20) (k : IntKind) : rdSlice P H 174 (some (.pointer (some ⟨b, off, none⟩))) (some (some (.int k (i : Int)))) (some none) (some none) = some (.slice (some ⟨b, off + i, none⟩) (20 - i) (20 - i)) := by
  have := rdSlice_arr (P := P) (H := H) (b := b) (off := off) und_174 sz_5 h (by omega) k
  rwa [Nat.mul_one] at this
/-- Twenty bytes, of which the last are a text. -/
def b20 (r : List UInt8) : List Value := List.replicate (20 - r.length) (.int .u8 0) ++ bys r
theorem b20_set (d : UInt8) (r : List UInt8) (h : r.length < 20) : (b20 r).set (19 - r.length) (.int .u8 d.toNat) = b20 (d :: r) := by
  unfold b20
  rw [List.set_append_left _ _ (by simp; omega)]
  have e1 : 20 - r.length = (19 - r.length) + 1 := by omega
  rw [e1, List.replicate_succ', List.set_append_right _ _ (by simp)]
  simp only [List.length_replicate, Nat.sub_self, List.set_cons_zero, List.length_cons]
  rw [show 20 - (r.length + 1) = 19 - r.length from by omega]
  simp [bys]
theorem b20_length (r : List UInt8) (h : r.length ≤ 20) : (b20 r).length = 20 := by simp [b20]; omega
theorem w_82_28 {nx0 : Nat} {H0 : T OB} {nx b : Nat} {H : T OB} (r : List UInt8) (hr : 0 < r.length ∧ r.length ≤ 20) (hA : Ag nx0 H0 nx H) (hb : IsB H b (b20 r) 174) :
    Wq P pl X (.jump (l82_28 (.pointer (some ⟨b, 0, none⟩)) (i64 ((20 - r.length : Nat) : Int)) H nx)) nx0 H0 (txt r) := by
  refine Wq.jmp (q82_28 ..) (fun _ => rfl) ?_
  rw [sl_174 (by omega), optK_some, rdConv_sl bytes_100 hb (by rw [b20_length r hr.2]; omega) (r := r), optK_some]
  · exact Wq.ret hA
  · unfold b20
    rw [Nat.zero_add, List.drop_left' (by simp)]
    rw [List.take_of_length_le (by simp; omega)]
/-- The sign of a number. -/
def sgn (n : Int) : List UInt8 := if n < 0 then [45] else []
theorem dig_eq (n : Int) : dig n = sgn n ++ dgA n.natAbs [] := by
  unfold dig sgn
  split <;> rfl
theorem byte_of (d : Nat) (h : d < 10) : IntKind.u8.wrap (48 + (d : Int)) = (((48 + d).toUInt8).toNat : Int) := by
  rw [wrap_u8]
  have : ((48 + d).toUInt8).toNat = 48 + d := by simp; omega
  rw [this]; omega
theorem w_82_15 {nx0 : Nat} {H0 : T OB} {b : Nat} (hbn : nx0 ≤ b) (n : Int) (k : Nat) : ∀ (u : Nat) (s : List UInt8) (H : T OB) (nx : Nat), u < 10 ^ (k + 1) → s.length + k = 18 → Ag nx0 H0 nx H → IsB H b (b20 s) 174 →
    Wq P pl X (.jump (l82_15 (i64 n) (.int .u64 (u : Int)) (.pointer (some ⟨b, 0, none⟩)) (i64 ((20 - s.length : Nat) : Int)) H nx)) nx0 H0 (txt (sgn n ++ dgA u s)) := by
  induction k with
  | zero =>
    intro u s H nx hu hs hA hb
    have hu : u < 10 := by simpa using hu
    refine Wq.jmp (q82_15 ..) (fun _ => rfl) ?_
    have e0 : IntKind.i64.wrap (((20 - s.length : Nat) : Int) - 1) = ((19 - s.length : Nat) : Int) := by rw [wrap_id (by omega)]; omega
    have e1 : (u : Int).tmod 10 = ((u % 10 : Nat) : Int) := by rw [Int.tmod_eq_emod_of_nonneg (by omega)]; omega
    have e2 : IntKind.u64.wrap (48 + ((u % 10 : Nat) : Int)) = 48 + ((u % 10 : Nat) : Int) := by rw [wrap_u64]; omega
    have e3 : IntKind.u64.wrap ((u : Int).tdiv 10) = 0 := by rw [Int.tdiv_eq_ediv_of_nonneg (by omega), wrap_u64]; omega
    rw [dgA, if_pos hu]
    simp only [oneCell_int, oneCell_str, oneCell_bool, oneCell_row, oneCell_ep, oneCell_nilp, cond_true, cond_false, optK_some, ldV_int, ldV_str, ldV_bool, ldV_row, ldV_ep, ldV_nilp, rdBin_add, rdBin_sub, rdBin_mul, rdBin_lss, rdBin_leq, rdBin_gtr, rdBin_geq, rdBin_eql, rdBin_neq, rdBin_seql, rdBin_sneq, unV_not, bvK_bool, bK_true, bK_false, Bool.not_true, Bool.not_false, Bool.not_not, rdNil_ep, rdNil_ptr, oneCell_sl, ldV_sl, vEq_self, List.length_nil, Int.cast_ofNat_Int, Int.reduceEq, Int.reduceLT, Int.reduceLE, decide_true, decide_false, eq_self, Bool.and_self, fa_25_0, fa_25_1, fa_25_2, fa_25_3, fa_25_4, fa_25_5, fa_67_0, fa_67_1, fa_67_2, fa_67_3, fa_69_0, fa_69_1, fa_69_2, fa_71_0, fa_71_1, fa_71_2, fa_71_3, fa_95_0, fa_95_1, fa_95_2, fa_102_0, fa_125_0, fa_125_1, fa_125_2, fa_125_3, fa_125_4, fa_145_0, fa_145_1, fa_177_0, fa_177_1, fp_25_0, fp_25_1, fp_25_2, fp_25_3, fp_25_4, fp_25_5, fp_67_0, fp_67_1, fp_67_2, fp_67_3, fp_69_0, fp_69_1, fp_69_2, fp_71_0, fp_71_1, fp_71_2, fp_71_3, fp_102_0, fp_125_0, fp_125_1, fp_125_2, fp_125_3, fp_125_4, fp_177_0, fp_177_1, fp_177_2, fp_177_3, ld_2, ld_3, ld_9, ld_22, ld_23, ld_25, ld_30, ld_63, ld_64, ld_65, ld_67, ld_69, ld_71, ld_100, ld_125, ld_141, ld_177, len_9, len_22, lenS_22, lenN_22, len_23, lenS_23, lenN_23, len_30, lenS_30, lenN_30, len_63, lenS_63, lenN_63, len_64, lenS_64, lenN_64, len_65, lenS_65, lenN_65, len_148, lenS_148, lenN_148, len_205, lenS_205, lenN_205, beql_4, pneq_141, pneq0_141, e0, rdBin_rem 173 true .u64 u 10 (by omega), rdBin_quo 173 true .u64 u 10 (by omega), e1, e2, cv_173_5, byte_of _ (Nat.mod_lt u (by omega : 0 < 10)), ix_174 (show 19 - s.length < 20 by omega), e3, Nat.zero_add]
    refine Wq.put hb sz_5 rfl rfl (by rw [b20_length s (by omega)]; omega) (b20_set _ s (by omega)) hA hbn fun H1 hb1 _ hA1 => ?_
    rw [show u % 10 = u from Nat.mod_eq_of_lt hu] at hb1
    refine Wq.ite (fun hn => ?_) (fun hn => ?_)
    · have e4 : IntKind.i64.wrap (((19 - s.length : Nat) : Int) - 1) = ((18 - s.length : Nat) : Int) := by rw [wrap_id (by omega)]; omega
      simp only [oneCell_int, oneCell_str, oneCell_bool, oneCell_row, oneCell_ep, oneCell_nilp, cond_true, cond_false, optK_some, ldV_int, ldV_str, ldV_bool, ldV_row, ldV_ep, ldV_nilp, rdBin_add, rdBin_sub, rdBin_mul, rdBin_lss, rdBin_leq, rdBin_gtr, rdBin_geq, rdBin_eql, rdBin_neq, rdBin_seql, rdBin_sneq, unV_not, bvK_bool, bK_true, bK_false, Bool.not_true, Bool.not_false, Bool.not_not, rdNil_ep, rdNil_ptr, oneCell_sl, ldV_sl, vEq_self, List.length_nil, Int.cast_ofNat_Int, Int.reduceEq, Int.reduceLT, Int.reduceLE, decide_true, decide_false, eq_self, Bool.and_self, fa_25_0, fa_25_1, fa_25_2, fa_25_3, fa_25_4, fa_25_5, fa_67_0, fa_67_1, fa_67_2, fa_67_3, fa_69_0, fa_69_1, fa_69_2, fa_71_0, fa_71_1, fa_71_2, fa_71_3, fa_95_0, fa_95_1, fa_95_2, fa_102_0, fa_125_0, fa_125_1, fa_125_2, fa_125_3, fa_125_4, fa_145_0, fa_145_1, fa_177_0, fa_177_1, fp_25_0, fp_25_1, fp_25_2, fp_25_3, fp_25_4, fp_25_5, fp_67_0, fp_67_1, fp_67_2, fp_67_3, fp_69_0, fp_69_1, fp_69_2, fp_71_0, fp_71_1, fp_71_2, fp_71_3, fp_102_0, fp_125_0, fp_125_1, fp_125_2, fp_125_3, fp_125_4, fp_177_0, fp_177_1, fp_177_2, fp_177_3, ld_2, ld_3, ld_9, ld_22, ld_23, ld_25, ld_30, ld_63, ld_64, ld_65, ld_67, ld_69, ld_71, ld_100, ld_125, ld_141, ld_177, len_9, len_22, lenS_22, lenN_22, len_23, lenS_23, lenN_23, len_30, lenS_30, lenN_30, len_63, lenS_63, lenN_63, len_64, lenS_64, lenN_64, len_65, lenS_65, lenN_65, len_148, lenS_148, lenN_148, len_205, lenS_205, lenN_205, beql_4, pneq_141, pneq0_141, e4, ix_174 (show 18 - s.length < 20 by omega), Nat.zero_add]
      have := b20_set 45 ((48 + u).toUInt8 :: s) (by simp; omega)
      rw [List.length_cons, show 19 - (s.length + 1) = 18 - s.length from by omega] at this
      refine Wq.put hb1 sz_5 rfl rfl (by rw [b20_length _ (by simp; omega)]; omega) this hA1 hbn fun H2 hb2 _ hA2 => ?_
      have := w_82_28 _ (by simp; omega) hA2 hb2
      simp only [List.length_cons, show 20 - (s.length + 1 + 1) = 18 - s.length from by omega] at this
      unfold sgn; rw [if_pos hn]
      exact this
    · have := w_82_28 _ (by simp; omega) hA1 hb1
      simp only [List.length_cons, show 20 - (s.length + 1) = 19 - s.length from by omega] at this
      unfold sgn; rw [if_neg hn]
      exact this
  | succ k ih =>
    intro u s H nx hu hs hA hb
    refine Wq.jmp (q82_15 ..) (fun _ => rfl) ?_
    have hpow : (10 : Nat) ^ (k + 1 + 1) ≤ 10 ^ 19 := Nat.pow_le_pow_right (by omega) (by omega)
    have h19 : (10 : Nat) ^ 19 = 10000000000000000000 := by decide
    have hdiv : u / 10 < 10 ^ (k + 1) := by rw [Nat.div_lt_iff_lt_mul (by omega)]; rw [Nat.pow_succ] at hu; omega
    have e0 : IntKind.i64.wrap (((20 - s.length : Nat) : Int) - 1) = ((19 - s.length : Nat) : Int) := by rw [wrap_id (by omega)]; omega
    have e1 : (u : Int).tmod 10 = ((u % 10 : Nat) : Int) := by rw [Int.tmod_eq_emod_of_nonneg (by omega)]; omega
    have e2 : IntKind.u64.wrap (48 + ((u % 10 : Nat) : Int)) = 48 + ((u % 10 : Nat) : Int) := by rw [wrap_u64]; omega
    have e3 : IntKind.u64.wrap ((u : Int).tdiv 10) = ((u / 10 : Nat) : Int) := by rw [Int.tdiv_eq_ediv_of_nonneg (by omega), wrap_u64]; omega
    simp only [oneCell_int, oneCell_str, oneCell_bool, oneCell_row, oneCell_ep, oneCell_nilp, cond_true, cond_false, optK_some, ldV_int, ldV_str, ldV_bool, ldV_row, ldV_ep, ldV_nilp, rdBin_add, rdBin_sub, rdBin_mul, rdBin_lss, rdBin_leq, rdBin_gtr, rdBin_geq, rdBin_eql, rdBin_neq, rdBin_seql, rdBin_sneq, unV_not, bvK_bool, bK_true, bK_false, Bool.not_true, Bool.not_false, Bool.not_not, rdNil_ep, rdNil_ptr, oneCell_sl, ldV_sl, vEq_self, List.length_nil, Int.cast_ofNat_Int, Int.reduceEq, Int.reduceLT, Int.reduceLE, decide_true, decide_false, eq_self, Bool.and_self, fa_25_0, fa_25_1, fa_25_2, fa_25_3, fa_25_4, fa_25_5, fa_67_0, fa_67_1, fa_67_2, fa_67_3, fa_69_0, fa_69_1, fa_69_2, fa_71_0, fa_71_1, fa_71_2, fa_71_3, fa_95_0, fa_95_1, fa_95_2, fa_102_0, fa_125_0, fa_125_1, fa_125_2, fa_125_3, fa_125_4, fa_145_0, fa_145_1, fa_177_0, fa_177_1, fp_25_0, fp_25_1, fp_25_2, fp_25_3, fp_25_4, fp_25_5, fp_67_0, fp_67_1, fp_67_2, fp_67_3, fp_69_0, fp_69_1, fp_69_2, fp_71_0, fp_71_1, fp_71_2, fp_71_3, fp_102_0, fp_125_0, fp_125_1, fp_125_2, fp_125_3, fp_125_4, fp_177_0, fp_177_1, fp_177_2, fp_177_3, ld_2, ld_3, ld_9, ld_22, ld_23, ld_25, ld_30, ld_63, ld_64, ld_65, ld_67, ld_69, ld_71, ld_100, ld_125, ld_141, ld_177, len_9, len_22, lenS_22, lenN_22, len_23, lenS_23, lenN_23, len_30, lenS_30, lenN_30, len_63, lenS_63, lenN_63, len_64, lenS_64, lenN_64, len_65, lenS_65, lenN_65, len_148, lenS_148, lenN_148, len_205, lenS_205, lenN_205, beql_4, pneq_141, pneq0_141, e0, rdBin_rem 173 true .u64 u 10 (by omega), rdBin_quo 173 true .u64 u 10 (by omega), e1, e2, cv_173_5, byte_of _ (Nat.mod_lt u (by omega : 0 < 10)), ix_174 (show 19 - s.length < 20 by omega), e3, Nat.zero_add]
    refine Wq.put hb sz_5 rfl rfl (by rw [b20_length s (by omega)]; omega) (b20_set _ s (by omega)) hA hbn fun H1 hb1 _ hA1 => ?_
    refine Wq.ite (fun h0 => ?_) (fun h0 => ?_)
    · have hu10 : u < 10 := by omega
      rw [dgA, if_pos hu10]
      rw [show u % 10 = u from Nat.mod_eq_of_lt hu10] at hb1
      refine Wq.ite (fun hn => ?_) (fun hn => ?_)
      · have e4 : IntKind.i64.wrap (((19 - s.length : Nat) : Int) - 1) = ((18 - s.length : Nat) : Int) := by rw [wrap_id (by omega)]; omega
        simp only [oneCell_int, oneCell_str, oneCell_bool, oneCell_row, oneCell_ep, oneCell_nilp, cond_true, cond_false, optK_some, ldV_int, ldV_str, ldV_bool, ldV_row, ldV_ep, ldV_nilp, rdBin_add, rdBin_sub, rdBin_mul, rdBin_lss, rdBin_leq, rdBin_gtr, rdBin_geq, rdBin_eql, rdBin_neq, rdBin_seql, rdBin_sneq, unV_not, bvK_bool, bK_true, bK_false, Bool.not_true, Bool.not_false, Bool.not_not, rdNil_ep, rdNil_ptr, oneCell_sl, ldV_sl, vEq_self, List.length_nil, Int.cast_ofNat_Int, Int.reduceEq, Int.reduceLT, Int.reduceLE, decide_true, decide_false, eq_self, Bool.and_self, fa_25_0, fa_25_1, fa_25_2, fa_25_3, fa_25_4, fa_25_5, fa_67_0, fa_67_1, fa_67_2, fa_67_3, fa_69_0, fa_69_1, fa_69_2, fa_71_0, fa_71_1, fa_71_2, fa_71_3, fa_95_0, fa_95_1, fa_95_2, fa_102_0, fa_125_0, fa_125_1, fa_125_2, fa_125_3, fa_125_4, fa_145_0, fa_145_1, fa_177_0, fa_177_1, fp_25_0, fp_25_1, fp_25_2, fp_25_3, fp_25_4, fp_25_5, fp_67_0, fp_67_1, fp_67_2, fp_67_3, fp_69_0, fp_69_1, fp_69_2, fp_71_0, fp_71_1, fp_71_2, fp_71_3, fp_102_0, fp_125_0, fp_125_1, fp_125_2, fp_125_3, fp_125_4, fp_177_0, fp_177_1, fp_177_2, fp_177_3, ld_2, ld_3, ld_9, ld_22, ld_23, ld_25, ld_30, ld_63, ld_64, ld_65, ld_67, ld_69, ld_71, ld_100, ld_125, ld_141, ld_177, len_9, len_22, lenS_22, lenN_22, len_23, lenS_23, lenN_23, len_30, lenS_30, lenN_30, len_63, lenS_63, lenN_63, len_64, lenS_64, lenN_64, len_65, lenS_65, lenN_65, len_148, lenS_148, lenN_148, len_205, lenS_205, lenN_205, beql_4, pneq_141, pneq0_141, e4, ix_174 (show 18 - s.length < 20 by omega), Nat.zero_add]
        have := b20_set 45 ((48 + u).toUInt8 :: s) (by simp; omega)
        rw [List.length_cons, show 19 - (s.length + 1) = 18 - s.length from by omega] at this
        refine Wq.put hb1 sz_5 rfl rfl (by rw [b20_length _ (by simp; omega)]; omega) this hA1 hbn fun H2 hb2 _ hA2 => ?_
        have := w_82_28 _ (by simp; omega) hA2 hb2
        simp only [List.length_cons, show 20 - (s.length + 1 + 1) = 18 - s.length from by omega] at this
        unfold sgn; rw [if_pos hn]
        exact this
      · have := w_82_28 _ (by simp; omega) hA1 hb1
        simp only [List.length_cons, show 20 - (s.length + 1) = 19 - s.length from by omega] at this
        unfold sgn; rw [if_neg hn]
        exact this
    · have := ih (u / 10) ((48 + u % 10).toUInt8 :: s) H1 nx hdiv (by simp; omega) hA1 hb1
      rw [dgA, if_neg (by omega)]
      simp only [List.length_cons, show 20 - (s.length + 1) = 19 - s.length from by omega] at this
      exact this
/-- The program's text of a number. -/
theorem pu_82 (n : Int) (h : -9223372036854775808 ≤ n ∧ n < 9223372036854775808) : Pu 82 [i64 n] (txt (dig n)) := Pure.of rfl fun H nx => by
  rw [q82]
  have L10 : Wq P pl X (.jump (l82_10 (i64 n) (.int .u64 ((n.natAbs : Nat) : Int)) H nx)) nx H (txt (dig n)) := by
    refine Wq.jmp (q82_10 ..) (fun _ => rfl) ?_
    refine Wq.alloc zero_174 (.refl _ _) fun H1 hb1 _ hA1 => ?_
    rw [dig_eq]
    exact w_82_15 (Nat.le_refl _) n 18 n.natAbs [] H1 _ (by rw [p19]; omega) rfl hA1 hb1
  simp only [oneCell_int, oneCell_str, oneCell_bool, oneCell_row, oneCell_ep, oneCell_nilp, cond_true, cond_false, optK_some, ldV_int, ldV_str, ldV_bool, ldV_row, ldV_ep, ldV_nilp, rdBin_add, rdBin_sub, rdBin_mul, rdBin_lss, rdBin_leq, rdBin_gtr, rdBin_geq, rdBin_eql, rdBin_neq, rdBin_seql, rdBin_sneq, unV_not, bvK_bool, bK_true, bK_false, Bool.not_true, Bool.not_false, Bool.not_not, rdNil_ep, rdNil_ptr, oneCell_sl, ldV_sl, vEq_self, List.length_nil, Int.cast_ofNat_Int, Int.reduceEq, Int.reduceLT, Int.reduceLE, decide_true, decide_false, eq_self, Bool.and_self, fa_25_0, fa_25_1, fa_25_2, fa_25_3, fa_25_4, fa_25_5, fa_67_0, fa_67_1, fa_67_2, fa_67_3, fa_69_0, fa_69_1, fa_69_2, fa_71_0, fa_71_1, fa_71_2, fa_71_3, fa_95_0, fa_95_1, fa_95_2, fa_102_0, fa_125_0, fa_125_1, fa_125_2, fa_125_3, fa_125_4, fa_145_0, fa_145_1, fa_177_0, fa_177_1, fp_25_0, fp_25_1, fp_25_2, fp_25_3, fp_25_4, fp_25_5, fp_67_0, fp_67_1, fp_67_2, fp_67_3, fp_69_0, fp_69_1, fp_69_2, fp_71_0, fp_71_1, fp_71_2, fp_71_3, fp_102_0, fp_125_0, fp_125_1, fp_125_2, fp_125_3, fp_125_4, fp_177_0, fp_177_1, fp_177_2, fp_177_3, ld_2, ld_3, ld_9, ld_22, ld_23, ld_25, ld_30, ld_63, ld_64, ld_65, ld_67, ld_69, ld_71, ld_100, ld_125, ld_141, ld_177, len_9, len_22, lenS_22, lenN_22, len_23, lenS_23, lenN_23, len_30, lenS_30, lenN_30, len_63, lenS_63, lenN_63, len_64, lenS_64, lenN_64, len_65, lenS_65, lenN_65, len_148, lenS_148, lenN_148, len_205, lenS_205, lenN_205, beql_4, pneq_141, pneq0_141, cv_2_173, unV_neg]
  refine Wq.ite (fun hn => ?_) (fun hn => ?_)
  · have e : IntKind.u64.wrap (0 - IntKind.u64.wrap n) = ((n.natAbs : Nat) : Int) := by rw [wrap_u64, wrap_u64]; omega
    rw [e]; exact L10
  · have e : IntKind.u64.wrap n = ((n.natAbs : Nat) : Int) := by rw [wrap_u64]; omega
    rw [e]; exact L10
theorem pu_49 (n : Int) (h : -9223372036854775808 ≤ n ∧ n < 9223372036854775808) : Pu 49 [i64 n] (txt (dig n)) := Pure.of rfl fun H nx => by
  rw [q49]
  refine Wq.call (pu_82 n h) (.refl _ _) fun H1 nx1 hA1 => ?_
  exact Wq.ret hA1
theorem natAbs_w (left : Int) (h : -9223372036854775808 ≤ left ∧ left < 9223372036854775808) : w (left.tdiv 10) = left.tdiv 10 ∧ (left.tdiv 10).natAbs = left.natAbs / 10 ∧ (left.tmod 10).natAbs = left.natAbs % 10 := by
  have h2 : (left.tdiv 10).natAbs = left.natAbs / 10 := by rw [Int.natAbs_tdiv]; rfl
  refine ⟨wrap_id (by omega), h2, by rw [Int.natAbs_tmod]; rfl⟩
theorem w_86_9 {nx0 : Nat} {H0 : T OB} (n : Int) (k : Nat) : ∀ (left : Int) (s : List UInt8) (H : T OB) (nx : Nat), left.natAbs < 10 ^ k → k ≤ 19 → -9223372036854775808 ≤ left → left < 9223372036854775808 → s.length + k ≤ 100 → (k = 0 → s ≠ []) → Ag nx0 H0 nx H →
    Wq P pl X (.jump (l86_9 (i64 n) (txt s) (i64 left) H nx)) nx0 H0 (txt (sgn n ++ (if left = 0 ∧ s ≠ [] then s else dgA left.natAbs s))) := by
  induction k with
  | zero =>
    intro left s H nx hl hk19 h1 h2 hk hs hA
    have : left = 0 := by have : (10 : Nat) ^ 0 = 1 := rfl
                          omega
    subst this
    rw [if_pos ⟨rfl, hs rfl⟩]
    refine Wq.jmp (q86_9 ..) (fun _ => rfl) ?_
    simp only [oneCell_int, oneCell_str, oneCell_bool, oneCell_row, oneCell_ep, oneCell_nilp, cond_true, cond_false, optK_some, ldV_int, ldV_str, ldV_bool, ldV_row, ldV_ep, ldV_nilp, rdBin_add, rdBin_sub, rdBin_mul, rdBin_lss, rdBin_leq, rdBin_gtr, rdBin_geq, rdBin_eql, rdBin_neq, rdBin_seql, rdBin_sneq, unV_not, bvK_bool, bK_true, bK_false, Bool.not_true, Bool.not_false, Bool.not_not, rdNil_ep, rdNil_ptr, oneCell_sl, ldV_sl, vEq_self, List.length_nil, Int.cast_ofNat_Int, Int.reduceEq, Int.reduceLT, Int.reduceLE, decide_true, decide_false, eq_self, Bool.and_self, fa_25_0, fa_25_1, fa_25_2, fa_25_3, fa_25_4, fa_25_5, fa_67_0, fa_67_1, fa_67_2, fa_67_3, fa_69_0, fa_69_1, fa_69_2, fa_71_0, fa_71_1, fa_71_2, fa_71_3, fa_95_0, fa_95_1, fa_95_2, fa_102_0, fa_125_0, fa_125_1, fa_125_2, fa_125_3, fa_125_4, fa_145_0, fa_145_1, fa_177_0, fa_177_1, fp_25_0, fp_25_1, fp_25_2, fp_25_3, fp_25_4, fp_25_5, fp_67_0, fp_67_1, fp_67_2, fp_67_3, fp_69_0, fp_69_1, fp_69_2, fp_71_0, fp_71_1, fp_71_2, fp_71_3, fp_102_0, fp_125_0, fp_125_1, fp_125_2, fp_125_3, fp_125_4, fp_177_0, fp_177_1, fp_177_2, fp_177_3, ld_2, ld_3, ld_9, ld_22, ld_23, ld_25, ld_30, ld_63, ld_64, ld_65, ld_67, ld_69, ld_71, ld_100, ld_125, ld_141, ld_177, len_9, len_22, lenS_22, lenN_22, len_23, lenS_23, lenN_23, len_30, lenS_30, lenN_30, len_63, lenS_63, lenN_63, len_64, lenS_64, lenN_64, len_65, lenS_65, lenN_65, len_148, lenS_148, lenN_148, len_205, lenS_205, lenN_205, beql_4, pneq_141, pneq0_141, decide_true, Bool.not_true, cond_false, show decide ((⟨⟨s⟩⟩ : ByteArray) = ⟨⟨[]⟩⟩) = false from by simp; exact hs rfl]
    refine Wq.ite (fun hn => ?_) (fun hn => ?_)
    · rw [rdAdd_txt 9 true [45] s (by simp; omega)]
      refine Wq.retE ?_ hA
      unfold sgn; rw [if_pos hn]
    · refine Wq.retE ?_ hA
      unfold sgn; rw [if_neg hn]; rfl
  | succ k ih =>
    intro left s H nx hl hk19 h1 h2 hk hs hA
    obtain ⟨e1, e2, e3⟩ := natAbs_w left ⟨h1, h2⟩
    have L16 : ∀ d : Nat, d = left.natAbs % 10 → (¬ (left = 0 ∧ s ≠ [])) → Wq P pl X (.jump (l86_16 (i64 n) (txt s) (i64 left) (i64 (d : Int)) H nx)) nx0 H0 (txt (sgn n ++ (if left = 0 ∧ s ≠ [] then s else dgA left.natAbs s))) := by
      intro d hd hno
      rw [if_neg hno]
      refine Wq.jmp (q86_16 ..) (fun _ => rfl) ?_
      have hd10 : d < 10 := by rw [hd]; exact Nat.mod_lt _ (by omega)
      have e5 : IntKind.i64.wrap (48 + (d : Int)) = 48 + (d : Int) := wrap_id (by omega)
      simp only [oneCell_int, oneCell_str, oneCell_bool, oneCell_row, oneCell_ep, oneCell_nilp, cond_true, cond_false, optK_some, ldV_int, ldV_str, ldV_bool, ldV_row, ldV_ep, ldV_nilp, rdBin_add, rdBin_sub, rdBin_mul, rdBin_lss, rdBin_leq, rdBin_gtr, rdBin_geq, rdBin_eql, rdBin_neq, rdBin_seql, rdBin_sneq, unV_not, bvK_bool, bK_true, bK_false, Bool.not_true, Bool.not_false, Bool.not_not, rdNil_ep, rdNil_ptr, oneCell_sl, ldV_sl, vEq_self, List.length_nil, Int.cast_ofNat_Int, Int.reduceEq, Int.reduceLT, Int.reduceLE, decide_true, decide_false, eq_self, Bool.and_self, fa_25_0, fa_25_1, fa_25_2, fa_25_3, fa_25_4, fa_25_5, fa_67_0, fa_67_1, fa_67_2, fa_67_3, fa_69_0, fa_69_1, fa_69_2, fa_71_0, fa_71_1, fa_71_2, fa_71_3, fa_95_0, fa_95_1, fa_95_2, fa_102_0, fa_125_0, fa_125_1, fa_125_2, fa_125_3, fa_125_4, fa_145_0, fa_145_1, fa_177_0, fa_177_1, fp_25_0, fp_25_1, fp_25_2, fp_25_3, fp_25_4, fp_25_5, fp_67_0, fp_67_1, fp_67_2, fp_67_3, fp_69_0, fp_69_1, fp_69_2, fp_71_0, fp_71_1, fp_71_2, fp_71_3, fp_102_0, fp_125_0, fp_125_1, fp_125_2, fp_125_3, fp_125_4, fp_177_0, fp_177_1, fp_177_2, fp_177_3, ld_2, ld_3, ld_9, ld_22, ld_23, ld_25, ld_30, ld_63, ld_64, ld_65, ld_67, ld_69, ld_71, ld_100, ld_125, ld_141, ld_177, len_9, len_22, lenS_22, lenN_22, len_23, lenS_23, lenN_23, len_30, lenS_30, lenN_30, len_63, lenS_63, lenN_63, len_64, lenS_64, lenN_64, len_65, lenS_65, lenN_65, len_148, lenS_148, lenN_148, len_205, lenS_205, lenN_205, beql_4, pneq_141, pneq0_141, e5, cv_2_5, byte_of d hd10]
      refine Wq.row und_100 sz_5 zero_5 rfl (fb1 _) hA fun H1 hb1 _ hA1 => ?_
      rw [rdConv_sl bytes_100 hb1 (r := [(48 + d).toUInt8]) (by simp) (by simp [bys]), optK_some, rdAdd_txt 9 false [(48 + d).toUInt8] s (by simp; omega)]
      simp only [oneCell_int, oneCell_str, oneCell_bool, oneCell_row, oneCell_ep, oneCell_nilp, cond_true, cond_false, optK_some, ldV_int, ldV_str, ldV_bool, ldV_row, ldV_ep, ldV_nilp, rdBin_add, rdBin_sub, rdBin_mul, rdBin_lss, rdBin_leq, rdBin_gtr, rdBin_geq, rdBin_eql, rdBin_neq, rdBin_seql, rdBin_sneq, unV_not, bvK_bool, bK_true, bK_false, Bool.not_true, Bool.not_false, Bool.not_not, rdNil_ep, rdNil_ptr, oneCell_sl, ldV_sl, vEq_self, List.length_nil, Int.cast_ofNat_Int, Int.reduceEq, Int.reduceLT, Int.reduceLE, decide_true, decide_false, eq_self, Bool.and_self, fa_25_0, fa_25_1, fa_25_2, fa_25_3, fa_25_4, fa_25_5, fa_67_0, fa_67_1, fa_67_2, fa_67_3, fa_69_0, fa_69_1, fa_69_2, fa_71_0, fa_71_1, fa_71_2, fa_71_3, fa_95_0, fa_95_1, fa_95_2, fa_102_0, fa_125_0, fa_125_1, fa_125_2, fa_125_3, fa_125_4, fa_145_0, fa_145_1, fa_177_0, fa_177_1, fp_25_0, fp_25_1, fp_25_2, fp_25_3, fp_25_4, fp_25_5, fp_67_0, fp_67_1, fp_67_2, fp_67_3, fp_69_0, fp_69_1, fp_69_2, fp_71_0, fp_71_1, fp_71_2, fp_71_3, fp_102_0, fp_125_0, fp_125_1, fp_125_2, fp_125_3, fp_125_4, fp_177_0, fp_177_1, fp_177_2, fp_177_3, ld_2, ld_3, ld_9, ld_22, ld_23, ld_25, ld_30, ld_63, ld_64, ld_65, ld_67, ld_69, ld_71, ld_100, ld_125, ld_141, ld_177, len_9, len_22, lenS_22, lenN_22, len_23, lenS_23, lenN_23, len_30, lenS_30, lenN_30, len_63, lenS_63, lenN_63, len_64, lenS_64, lenN_64, len_65, lenS_65, lenN_65, len_148, lenS_148, lenN_148, len_205, lenS_205, lenN_205, beql_4, pneq_141, pneq0_141, rdBin_quo 2 true .i64 left 10 (by omega), e1]
      have := ih (left.tdiv 10) ((48 + d).toUInt8 :: s) H1 _ (by rw [e2, Nat.div_lt_iff_lt_mul (by omega)]; rw [Nat.pow_succ] at hl; omega) (by omega) (by omega) (by omega) (by simp; omega) (fun _ => by simp) hA1
      have e6 : (if left.tdiv 10 = 0 ∧ (48 + d).toUInt8 :: s ≠ [] then (48 + d).toUInt8 :: s else dgA (left.tdiv 10).natAbs ((48 + d).toUInt8 :: s)) = dgA left.natAbs s := by
        rw [dgA.eq_def left.natAbs s, e2, hd]
        by_cases hlt : left.natAbs < 10
        · rw [if_pos ⟨by omega, by simp⟩, if_pos hlt, Nat.mod_eq_of_lt hlt]
        · rw [if_neg (fun q => by omega), if_neg hlt]
      rw [e6] at this
      exact this
    have hm : ∀ (q : Int), q = left.tmod 10 → ¬ q < 0 → q = ((left.natAbs % 10 : Nat) : Int) := fun q hq h => by rw [← e3, ← hq]; omega
    have hm2 : ∀ (q : Int), q = left.tmod 10 → q < 0 → IntKind.i64.wrap (0 - q) = ((left.natAbs % 10 : Nat) : Int) := fun q hq h => by
      have : q.natAbs < 10 := by rw [hq, e3]; exact Nat.mod_lt _ (by omega)
      rw [wrap_id (by omega), ← e3, ← hq]; omega
    refine Wq.jmp (q86_9 ..) (fun _ => rfl) ?_
    simp only [oneCell_int, oneCell_str, oneCell_bool, oneCell_row, oneCell_ep, oneCell_nilp, cond_true, cond_false, optK_some, ldV_int, ldV_str, ldV_bool, ldV_row, ldV_ep, ldV_nilp, rdBin_add, rdBin_sub, rdBin_mul, rdBin_lss, rdBin_leq, rdBin_gtr, rdBin_geq, rdBin_eql, rdBin_neq, rdBin_seql, rdBin_sneq, unV_not, bvK_bool, bK_true, bK_false, Bool.not_true, Bool.not_false, Bool.not_not, rdNil_ep, rdNil_ptr, oneCell_sl, ldV_sl, vEq_self, List.length_nil, Int.cast_ofNat_Int, Int.reduceEq, Int.reduceLT, Int.reduceLE, decide_true, decide_false, eq_self, Bool.and_self, fa_25_0, fa_25_1, fa_25_2, fa_25_3, fa_25_4, fa_25_5, fa_67_0, fa_67_1, fa_67_2, fa_67_3, fa_69_0, fa_69_1, fa_69_2, fa_71_0, fa_71_1, fa_71_2, fa_71_3, fa_95_0, fa_95_1, fa_95_2, fa_102_0, fa_125_0, fa_125_1, fa_125_2, fa_125_3, fa_125_4, fa_145_0, fa_145_1, fa_177_0, fa_177_1, fp_25_0, fp_25_1, fp_25_2, fp_25_3, fp_25_4, fp_25_5, fp_67_0, fp_67_1, fp_67_2, fp_67_3, fp_69_0, fp_69_1, fp_69_2, fp_71_0, fp_71_1, fp_71_2, fp_71_3, fp_102_0, fp_125_0, fp_125_1, fp_125_2, fp_125_3, fp_125_4, fp_177_0, fp_177_1, fp_177_2, fp_177_3, ld_2, ld_3, ld_9, ld_22, ld_23, ld_25, ld_30, ld_63, ld_64, ld_65, ld_67, ld_69, ld_71, ld_100, ld_125, ld_141, ld_177, len_9, len_22, lenS_22, lenN_22, len_23, lenS_23, lenN_23, len_30, lenS_30, lenN_30, len_63, lenS_63, lenN_63, len_64, lenS_64, lenN_64, len_65, lenS_65, lenN_65, len_148, lenS_148, lenN_148, len_205, lenS_205, lenN_205, beql_4, pneq_141, pneq0_141, rdBin_rem 2 true .i64 left 10 (by omega), unV_neg]
    refine Wq.bK (fun h => ?_) (fun h => ?_)
    · have hne : left ≠ 0 := by simpa using h
      refine Wq.ite (fun hn => ?_) (fun hn => ?_)
      · rw [hm2 _ rfl hn]; exact L16 _ rfl (fun q => hne q.1)
      · have := L16 _ rfl (fun q => hne q.1)
        rw [← hm _ rfl hn] at this; exact this
    · have h0 : left = 0 := by simpa using h
      refine Wq.ite (fun hs0 => ?_) (fun hs0 => ?_)
      · have hs1 : s = [] := by simpa using hs0
        refine Wq.ite (fun hn => ?_) (fun hn => ?_)
        · rw [hm2 _ rfl hn]; exact L16 _ rfl (fun q => q.2 hs1)
        · have := L16 _ rfl (fun q => q.2 hs1)
          rw [← hm _ rfl hn] at this; exact this
      · have hs1 : s ≠ [] := by simpa using hs0
        rw [if_pos ⟨h0, hs1⟩]
        refine Wq.ite (fun hn => ?_) (fun hn => ?_)
        · rw [rdAdd_txt 9 true [45] s (by simp; omega)]
          refine Wq.retE ?_ hA
          unfold sgn; rw [if_pos hn]
        · refine Wq.retE ?_ hA
          unfold sgn; rw [if_neg hn]; rfl
/-- The document's text of a number. -/
theorem pu_86 (n : Int) (h : -9223372036854775808 ≤ n ∧ n < 9223372036854775808) : Pu 86 [i64 n] (txt (dig n)) := Pure.of rfl fun H nx => by
  rw [q86, dig_eq]
  have := w_86_9 (H0 := H) (nx0 := nx) n 19 n [] H nx (by rw [p19']; omega) (by omega) h.1 h.2 (by simp) (by omega) (.refl _ _)
  simpa using this
end
end Go.Proofs.YtfdgoenmdalphaaGreatDoor
