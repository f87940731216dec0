/- Numbers as texts. -/
import Derived.Test.YtcfpakjillacgaaGreatDoorTA
import Derived.Test.YtcfpakjillacgaaGreatDoorQU
namespace Go.Proofs.YtcfpakjillacgaaGreatDoor
open Go.Ev Go.RowKit
noncomputable section
set_option maxRecDepth 100000
set_option linter.unusedVariables false
set_option linter.unusedSimpArgs false
abbrev E0 : ByteArray := ⟨⟨[]⟩⟩
/-- Digits ahead of others. -/
def dgA (u : Nat) (s : List UInt8) : List UInt8 := if u < 10 then (48 + u).toUInt8 :: s else dgA (u / 10) ((48 + u % 10).toUInt8 :: s)
termination_by u
decreasing_by omega
theorem dgA_length (k : Nat) : ∀ (u : Nat) (s : List UInt8), u < 10 ^ (k + 1) → (dgA u s).length ≤ s.length + k + 1 ∧ s.length < (dgA u s).length := by
  induction k with
  | zero =>
    intro u s h
    rw [dgA, if_pos (by simpa using h)]
    simp
  | succ k ih =>
    intro u s h
    rw [dgA]
    split
    · simp
    · have := ih (u / 10) ((48 + u % 10).toUInt8 :: s) (by rw [Nat.div_lt_iff_lt_mul (by omega)]; rw [Nat.pow_succ] at h; omega)
      simp only [List.length_cons] at this ⊢
      omega
/-- A number's text. -/
def dig (n : Int) : List UInt8 := if n < 0 then 45 :: dgA n.natAbs [] else dgA n.natAbs []
theorem dig_length (n : Int) (h : -9223372036854775808 ≤ n ∧ n < 9223372036854775808) : (dig n).length ≤ 20 := by
  have := (dgA_length 18 n.natAbs [] (by have : (10:Nat) ^ (18 + 1) = 10000000000000000000 := by decide
                                         omega)).1
  unfold dig
  split <;> simp only [List.length_cons, List.length_nil] at this ⊢ <;> omega
theorem p19 : (10:Nat) ^ (18 + 1) = 10000000000000000000 := by decide
theorem p19' : (10:Nat) ^ 19 = 10000000000000000000 := by decide
theorem zero_5 : zeroC P 5 = some [.int .u8 0] := by kernel_rfl
theorem fb1 (a0 : Int) : Instr.fill (fun i => some (i * 1, 1)) (zeroRow [.int .u8 0] (1 * 1)) [(0, .int .u8 a0)] = some ⟨[.int .u8 a0]⟩ := by kernel_rfl
theorem fb2 (a0 a1 : Int) : Instr.fill (fun i => some (i * 1, 1)) (zeroRow [.int .u8 0] (2 * 1)) [(0, .int .u8 a0), (1, .int .u8 a1)] = some ⟨[.int .u8 a0, .int .u8 a1]⟩ := by kernel_rfl
theorem fb4 (a0 a1 a2 a3 : Int) : Instr.fill (fun i => some (i * 1, 1)) (zeroRow [.int .u8 0] (4 * 1)) [(0, .int .u8 a0), (1, .int .u8 a1), (2, .int .u8 a2), (3, .int .u8 a3)] = some ⟨[.int .u8 a0, .int .u8 a1, .int .u8 a2, .int .u8 a3]⟩ := by kernel_rfl
theorem ft1 (a0 : ByteArray) : Instr.fill (fun i => some (i * 1, 1)) (zeroRow [.string E0] (1 * 1)) [(0, .string a0)] = some ⟨[.string a0]⟩ := by kernel_rfl
theorem ft2 (a0 a1 : ByteArray) : Instr.fill (fun i => some (i * 1, 1)) (zeroRow [.string E0] (2 * 1)) [(0, .string a0), (1, .string a1)] = some ⟨[.string a0, .string a1]⟩ := by kernel_rfl
theorem ft3 (a0 a1 a2 : ByteArray) : Instr.fill (fun i => some (i * 1, 1)) (zeroRow [.string E0] (3 * 1)) [(0, .string a0), (1, .string a1), (2, .string a2)] = some ⟨[.string a0, .string a1, .string a2]⟩ := by kernel_rfl
theorem ft4 (a0 a1 a2 a3 : ByteArray) : Instr.fill (fun i => some (i * 1, 1)) (zeroRow [.string E0] (4 * 1)) [(0, .string a0), (1, .string a1), (2, .string a2), (3, .string a3)] = some ⟨[.string a0, .string a1, .string a2, .string a3]⟩ := by kernel_rfl
theorem ft5 (a0 a1 a2 a3 a4 : ByteArray) : Instr.fill (fun i => some (i * 1, 1)) (zeroRow [.string E0] (5 * 1)) [(0, .string a0), (1, .string a1), (2, .string a2), (3, .string a3), (4, .string a4)] = some ⟨[.string a0, .string a1, .string a2, .string a3, .string a4]⟩ := by kernel_rfl
theorem und_2 : P.underlying 2 = some (.int .i64) := by kernel_rfl
theorem und_161 : P.underlying 161 = some (.int .u64) := by kernel_rfl
theorem und_5 : P.underlying 5 = some (.int .u8) := by kernel_rfl
theorem und_9 : P.underlying 9 = some .string := by kernel_rfl
theorem bytes_82 : isBytesT P 82 9 = true := by kernel_rfl
theorem cv_2_5 (H : T OB) (n : Int) : rdConv P H 2 5 (some (i64 n)) = some (.int .u8 (IntKind.u8.wrap n)) := rdConv_int und_2 und_5
theorem wrap_u64 (n : Int) : IntKind.u64.wrap n = n % 18446744073709551616 := by
  unfold IntKind.wrap
  simp [IntKind.bits, IntKind.signed]
theorem wrap_u8 (n : Int) : IntKind.u8.wrap n = n % 256 := by
  unfold IntKind.wrap
  simp [IntKind.bits, IntKind.signed]
/-- Twenty bytes, of which the last are a text. -/
def b20 (r : List UInt8) : List Value := List.replicate (20 - r.length) (.int .u8 0) ++ bys r
/-- The sign of a number. -/
def sgn (n : Int) : List UInt8 := if n < 0 then [45] else []
theorem dig_eq (n : Int) : dig n = sgn n ++ dgA n.natAbs [] := by
  unfold dig sgn
  split <;> rfl
theorem byte_of (d : Nat) (h : d < 10) : IntKind.u8.wrap (48 + (d : Int)) = (((48 + d).toUInt8).toNat : Int) := by
  rw [wrap_u8]
  have : ((48 + d).toUInt8).toNat = 48 + d := by simp; omega
  rw [this]; omega
theorem natAbs_w (left : Int) (h : -9223372036854775808 ≤ left ∧ left < 9223372036854775808) : w (left.tdiv 10) = left.tdiv 10 ∧ (left.tdiv 10).natAbs = left.natAbs / 10 ∧ (left.tmod 10).natAbs = left.natAbs % 10 := by
  have h2 : (left.tdiv 10).natAbs = left.natAbs / 10 := by rw [Int.natAbs_tdiv]; rfl
  refine ⟨wrap_id (by omega), h2, by rw [Int.natAbs_tmod]; rfl⟩
theorem w_17_9 {nx0 : Nat} {H0 : T OB} (n : Int) (k : Nat) : ∀ (left : Int) (s : List UInt8) (H : T OB) (nx : Nat), left.natAbs < 10 ^ k → k ≤ 19 → -9223372036854775808 ≤ left → left < 9223372036854775808 → s.length + k ≤ 100 → (k = 0 → s ≠ []) → Ag nx0 H0 nx H →
    Wq P pl X (.jump (l17_9 (i64 n) (txt s) (i64 left) H nx)) nx0 H0 (txt (sgn n ++ (if left = 0 ∧ s ≠ [] then s else dgA left.natAbs s))) := by
  induction k with
  | zero =>
    intro left s H nx hl hk19 h1 h2 hk hs hA
    have : left = 0 := by have : (10 : Nat) ^ 0 = 1 := rfl
                          omega
    subst this
    rw [if_pos ⟨rfl, hs rfl⟩]
    refine Wq.jmp (q17_9 ..) (fun _ => rfl) ?_
    simp only [oneCell_int, oneCell_str, oneCell_bool, oneCell_row, oneCell_ep, oneCell_nilp, cond_true, cond_false, optK_some, ldV_int, ldV_str, ldV_bool, ldV_row, ldV_ep, ldV_nilp, rdBin_add, rdBin_sub, rdBin_mul, rdBin_lss, rdBin_leq, rdBin_gtr, rdBin_geq, rdBin_eql, rdBin_neq, rdBin_seql, rdBin_sneq, unV_not, bvK_bool, bK_true, bK_false, Bool.not_true, Bool.not_false, Bool.not_not, rdNil_ep, rdNil_ptr, oneCell_sl, ldV_sl, vEq_self, List.length_nil, Int.cast_ofNat_Int, Int.reduceEq, Int.reduceLT, Int.reduceLE, decide_true, decide_false, eq_self, Bool.and_self, fa_24_0, fa_24_1, fa_24_2, fa_24_3, fp_24_0, fp_24_1, fp_24_2, fp_24_3, ld_3, ld_5, ld_9, ld_22, ld_24, ld_161, len_9, len_22, lenS_22, lenN_22, len_82, lenS_82, lenN_82, decide_true, Bool.not_true, cond_false, show decide ((⟨⟨s⟩⟩ : ByteArray) = ⟨⟨[]⟩⟩) = false from by simp; exact hs rfl]
    refine Wq.ite (fun hn => ?_) (fun hn => ?_)
    · rw [rdAdd_txt 9 true [45] s (by simp; omega)]
      refine Wq.retE ?_ hA
      unfold sgn; rw [if_pos hn]
    · refine Wq.retE ?_ hA
      unfold sgn; rw [if_neg hn]; rfl
  | succ k ih =>
    intro left s H nx hl hk19 h1 h2 hk hs hA
    obtain ⟨e1, e2, e3⟩ := natAbs_w left ⟨h1, h2⟩
    have L16 : ∀ d : Nat, d = left.natAbs % 10 → (¬ (left = 0 ∧ s ≠ [])) → Wq P pl X (.jump (l17_16 (i64 n) (txt s) (i64 left) (i64 (d : Int)) H nx)) nx0 H0 (txt (sgn n ++ (if left = 0 ∧ s ≠ [] then s else dgA left.natAbs s))) := by
      intro d hd hno
      rw [if_neg hno]
      refine Wq.jmp (q17_16 ..) (fun _ => rfl) ?_
      have hd10 : d < 10 := by rw [hd]; exact Nat.mod_lt _ (by omega)
      have e5 : IntKind.i64.wrap (48 + (d : Int)) = 48 + (d : Int) := wrap_id (by omega)
      simp only [oneCell_int, oneCell_str, oneCell_bool, oneCell_row, oneCell_ep, oneCell_nilp, cond_true, cond_false, optK_some, ldV_int, ldV_str, ldV_bool, ldV_row, ldV_ep, ldV_nilp, rdBin_add, rdBin_sub, rdBin_mul, rdBin_lss, rdBin_leq, rdBin_gtr, rdBin_geq, rdBin_eql, rdBin_neq, rdBin_seql, rdBin_sneq, unV_not, bvK_bool, bK_true, bK_false, Bool.not_true, Bool.not_false, Bool.not_not, rdNil_ep, rdNil_ptr, oneCell_sl, ldV_sl, vEq_self, List.length_nil, Int.cast_ofNat_Int, Int.reduceEq, Int.reduceLT, Int.reduceLE, decide_true, decide_false, eq_self, Bool.and_self, fa_24_0, fa_24_1, fa_24_2, fa_24_3, fp_24_0, fp_24_1, fp_24_2, fp_24_3, ld_3, ld_5, ld_9, ld_22, ld_24, ld_161, len_9, len_22, lenS_22, lenN_22, len_82, lenS_82, lenN_82, e5, cv_2_5, byte_of d hd10]
      refine Wq.row und_82 sz_5 zero_5 rfl (fb1 _) hA fun H1 hb1 _ hA1 => ?_
      rw [rdConv_sl bytes_82 hb1 (r := [(48 + d).toUInt8]) (by simp) (by simp [bys]), optK_some, rdAdd_txt 9 false [(48 + d).toUInt8] s (by simp; omega)]
      simp only [oneCell_int, oneCell_str, oneCell_bool, oneCell_row, oneCell_ep, oneCell_nilp, cond_true, cond_false, optK_some, ldV_int, ldV_str, ldV_bool, ldV_row, ldV_ep, ldV_nilp, rdBin_add, rdBin_sub, rdBin_mul, rdBin_lss, rdBin_leq, rdBin_gtr, rdBin_geq, rdBin_eql, rdBin_neq, rdBin_seql, rdBin_sneq, unV_not, bvK_bool, bK_true, bK_false, Bool.not_true, Bool.not_false, Bool.not_not, rdNil_ep, rdNil_ptr, oneCell_sl, ldV_sl, vEq_self, List.length_nil, Int.cast_ofNat_Int, Int.reduceEq, Int.reduceLT, Int.reduceLE, decide_true, decide_false, eq_self, Bool.and_self, fa_24_0, fa_24_1, fa_24_2, fa_24_3, fp_24_0, fp_24_1, fp_24_2, fp_24_3, ld_3, ld_5, ld_9, ld_22, ld_24, ld_161, len_9, len_22, lenS_22, lenN_22, len_82, lenS_82, lenN_82, rdBin_quo 2 true .i64 left 10 (by omega), e1]
      have := ih (left.tdiv 10) ((48 + d).toUInt8 :: s) H1 _ (by rw [e2, Nat.div_lt_iff_lt_mul (by omega)]; rw [Nat.pow_succ] at hl; omega) (by omega) (by omega) (by omega) (by simp; omega) (fun _ => by simp) hA1
      have e6 : (if left.tdiv 10 = 0 ∧ (48 + d).toUInt8 :: s ≠ [] then (48 + d).toUInt8 :: s else dgA (left.tdiv 10).natAbs ((48 + d).toUInt8 :: s)) = dgA left.natAbs s := by
        rw [dgA.eq_def left.natAbs s, e2, hd]
        by_cases hlt : left.natAbs < 10
        · rw [if_pos ⟨by omega, by simp⟩, if_pos hlt, Nat.mod_eq_of_lt hlt]
        · rw [if_neg (fun q => by omega), if_neg hlt]
      rw [e6] at this
      exact this
    have hm : ∀ (q : Int), q = left.tmod 10 → ¬ q < 0 → q = ((left.natAbs % 10 : Nat) : Int) := fun q hq h => by rw [← e3, ← hq]; omega
    have hm2 : ∀ (q : Int), q = left.tmod 10 → q < 0 → IntKind.i64.wrap (0 - q) = ((left.natAbs % 10 : Nat) : Int) := fun q hq h => by
      have : q.natAbs < 10 := by rw [hq, e3]; exact Nat.mod_lt _ (by omega)
      rw [wrap_id (by omega), ← e3, ← hq]; omega
    refine Wq.jmp (q17_9 ..) (fun _ => rfl) ?_
    simp only [oneCell_int, oneCell_str, oneCell_bool, oneCell_row, oneCell_ep, oneCell_nilp, cond_true, cond_false, optK_some, ldV_int, ldV_str, ldV_bool, ldV_row, ldV_ep, ldV_nilp, rdBin_add, rdBin_sub, rdBin_mul, rdBin_lss, rdBin_leq, rdBin_gtr, rdBin_geq, rdBin_eql, rdBin_neq, rdBin_seql, rdBin_sneq, unV_not, bvK_bool, bK_true, bK_false, Bool.not_true, Bool.not_false, Bool.not_not, rdNil_ep, rdNil_ptr, oneCell_sl, ldV_sl, vEq_self, List.length_nil, Int.cast_ofNat_Int, Int.reduceEq, Int.reduceLT, Int.reduceLE, decide_true, decide_false, eq_self, Bool.and_self, fa_24_0, fa_24_1, fa_24_2, fa_24_3, fp_24_0, fp_24_1, fp_24_2, fp_24_3, ld_3, ld_5, ld_9, ld_22, ld_24, ld_161, len_9, len_22, lenS_22, lenN_22, len_82, lenS_82, lenN_82, rdBin_rem 2 true .i64 left 10 (by omega), unV_neg]
    refine Wq.bK (fun h => ?_) (fun h => ?_)
    · have hne : left ≠ 0 := by simpa using h
      refine Wq.ite (fun hn => ?_) (fun hn => ?_)
      · rw [hm2 _ rfl hn]; exact L16 _ rfl (fun q => hne q.1)
      · have := L16 _ rfl (fun q => hne q.1)
        rw [← hm _ rfl hn] at this; exact this
    · have h0 : left = 0 := by simpa using h
      refine Wq.ite (fun hs0 => ?_) (fun hs0 => ?_)
      · have hs1 : s = [] := by simpa using hs0
        refine Wq.ite (fun hn => ?_) (fun hn => ?_)
        · rw [hm2 _ rfl hn]; exact L16 _ rfl (fun q => q.2 hs1)
        · have := L16 _ rfl (fun q => q.2 hs1)
          rw [← hm _ rfl hn] at this; exact this
      · have hs1 : s ≠ [] := by simpa using hs0
        rw [if_pos ⟨h0, hs1⟩]
        refine Wq.ite (fun hn => ?_) (fun hn => ?_)
        · rw [rdAdd_txt 9 true [45] s (by simp; omega)]
          refine Wq.retE ?_ hA
          unfold sgn; rw [if_pos hn]
        · refine Wq.retE ?_ hA
          unfold sgn; rw [if_neg hn]; rfl
/-- The document's text of a number. -/
theorem pu_17 (n : Int) (h : -9223372036854775808 ≤ n ∧ n < 9223372036854775808) : Pu 17 [i64 n] (txt (dig n)) := Pure.of rfl fun H nx => by
  rw [q17, dig_eq]
  have := w_17_9 (H0 := H) (nx0 := nx) n 19 n [] H nx (by rw [p19']; omega) (by omega) h.1 h.2 (by simp) (by omega) (.refl _ _)
  simpa using this
end
end Go.Proofs.YtcfpakjillacgaaGreatDoor
