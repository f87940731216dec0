/- The program's text of a type, and the law. -/
import Derived.Test.YtcfpakjillacgaaGreatDoorTF
namespace Go.Proofs.YtcfpakjillacgaaGreatDoor
open Go.Ev Go.RowKit
noncomputable section
set_option maxRecDepth 100000
set_option linter.unusedVariables false
set_option linter.unusedSimpArgs false
/-- A type's text, what stands around it being so. -/
def hx (hard : Int) (t : Ty) : List UInt8 := if hard = 0 then tx t else bx (decide (hard = 2)) t
def wrH (hard own : Int) (s : List UInt8) : List UInt8 := if own ≤ hard then 40 :: (s ++ [41]) else s
abbrev hOk (h : Int) : Prop := h = 0 ∨ h = 1 ∨ h = 2
theorem hx_arr {t : Ty} (h : isArr t) {hard : Int} (hh : hOk hard) : hx hard t = wrH hard 1 (tx t) := by
  unfold hx wrH bx wr
  rcases hh with rfl | rfl | rfl
  · rfl
  · rw [if_neg (by decide), if_pos (Or.inl h), if_pos (by decide)]
  · rw [if_neg (by decide), if_pos (Or.inl h), if_pos (by decide)]
theorem hx_tup {t : Ty} (h : isTup t) {hard : Int} (hh : hOk hard) : hx hard t = wrH hard 2 (tx t) := by
  have na : ¬ isArr t := fun q => by have := q.2.1; have := h.2.1; omega
  unfold hx wrH bx wr
  rcases hh with rfl | rfl | rfl
  · rfl
  · rw [if_neg (by decide), if_neg (by simp [na]), if_neg (by decide)]
  · rw [if_neg (by decide), if_pos (Or.inr ⟨h, rfl⟩), if_pos (by decide)]
theorem hx_no {t : Ty} (ha : ¬ isArr t) (hb : ¬ isTup t) (hard : Int) : hx hard t = tx t := by
  unfold hx bx wr
  split
  · rfl
  · rw [if_neg (by simp [ha, hb])]
def okP (t : Ty) : Prop := tOk t → (tx t).length ≤ 1000000 → ∀ hard, hOk hard → Pu 15 [t.v, i64 hard] (txt (hx hard t))
theorem hx_two (t : Ty) : hx 2 t = bx true t := rfl
theorem hx_one (t : Ty) : hx 1 t = bx false t := rfl
theorem hx_zero (t : Ty) : hx 0 t = tx t := rfl
theorem w_15_39 {nx0 : Nat} {H0 : T OB} (hard : Int) (l : List Ty) (hp : ∀ c, c ∈ l → okP c) (hs : ∀ c, c ∈ l → tOk c) (hl : l.length < 1125899906842624) : ∀ (r : List Ty) (i : Nat) (s : List UInt8) (H : T OB) (nx : Nat), l.drop i = r → i ≤ l.length →
    s.length + (r.flatMap fun c => [32, 42, 32] ++ bx true c).length ≤ 1000000 → Ag nx0 H0 nx H →
    Wq P pl X (.jump (l15_39 (i64 hard) (txt s) (i64 2) (rowV 4 (l.map Ty.v)) (i64 (l.length : Int)) (i64 (i : Int)) H nx)) nx0 H0 (txt (wrH hard 2 (s ++ r.flatMap fun c => [32, 42, 32] ++ bx true c))) := by
  intro r
  induction r with
  | nil =>
    intro i s H nx hd hi hlen hA
    have hil := drop_nil hd hi
    rw [List.flatMap_nil] at hlen ⊢
    rw [List.append_nil]
    refine Wq.jmp (q15_39 ..) (fun _ => rfl) ?_
    simp only [List.length_nil] at hlen
    simp only [oneCell_int, oneCell_str, oneCell_bool, oneCell_row, oneCell_ep, oneCell_nilp, cond_true, cond_false, optK_some, ldV_int, ldV_str, ldV_bool, ldV_row, ldV_ep, ldV_nilp, rdBin_add, rdBin_sub, rdBin_mul, rdBin_lss, rdBin_leq, rdBin_gtr, rdBin_geq, rdBin_eql, rdBin_neq, rdBin_seql, rdBin_sneq, unV_not, bvK_bool, bK_true, bK_false, Bool.not_true, Bool.not_false, Bool.not_not, rdNil_ep, rdNil_ptr, oneCell_sl, ldV_sl, vEq_self, List.length_nil, Int.cast_ofNat_Int, Int.reduceEq, Int.reduceLT, Int.reduceLE, decide_true, decide_false, eq_self, Bool.and_self, fa_24_0, fa_24_1, fa_24_2, fa_24_3, fp_24_0, fp_24_1, fp_24_2, fp_24_3, ld_3, ld_5, ld_9, ld_22, ld_24, ld_161, len_9, len_22, lenS_22, lenN_22, len_82, lenS_82, lenN_82, hil, not_lt_len]
    unfold wrH
    refine Wq.ite (fun h => ?_) (fun h => ?_)
    · rw [if_pos h, rdAdd_txt 9 true [40] s (by simp; omega), optK_some, rdAdd_txt 9 true _ [41] (by simp; omega), optK_some]
      exact Wq.ret hA
    · rw [if_neg h]; exact Wq.ret hA
  | cons c r ih =>
    intro i s H nx hd hi hlen hA
    obtain ⟨hg, hlt, hd'⟩ := drop_cons hd
    have hc : c ∈ l := List.mem_of_getElem? hg
    have hg' : (l.map Ty.v)[i]? = some c.v := by simp [hg]
    rw [List.flatMap_cons] at hlen ⊢
    simp only [List.length_append, List.length_cons, List.length_nil] at hlen
    have hbl := bx_length true c
    have hq := hp c hc (hs c hc) (by omega) 2 (.inr (.inr rfl))
    rw [hx_two] at hq
    rw [c.v_eq] at hg' hq
    refine Wq.jmp (q15_39 ..) (fun _ => rfl) ?_
    simp only [oneCell_int, oneCell_str, oneCell_bool, oneCell_row, oneCell_ep, oneCell_nilp, cond_true, cond_false, optK_some, ldV_int, ldV_str, ldV_bool, ldV_row, ldV_ep, ldV_nilp, rdBin_add, rdBin_sub, rdBin_mul, rdBin_lss, rdBin_leq, rdBin_gtr, rdBin_geq, rdBin_eql, rdBin_neq, rdBin_seql, rdBin_sneq, unV_not, bvK_bool, bK_true, bK_false, Bool.not_true, Bool.not_false, Bool.not_not, rdNil_ep, rdNil_ptr, oneCell_sl, ldV_sl, vEq_self, List.length_nil, Int.cast_ofNat_Int, Int.reduceEq, Int.reduceLT, Int.reduceLE, decide_true, decide_false, eq_self, Bool.and_self, fa_24_0, fa_24_1, fa_24_2, fa_24_3, fp_24_0, fp_24_1, fp_24_2, fp_24_3, ld_3, ld_5, ld_9, ld_22, ld_24, ld_161, len_9, len_22, lenS_22, lenN_22, len_82, lenS_82, lenN_82, is_lt_len hlt, ix_22 hg', wrap_succ (show i < 9223372036854775807 by omega)]
    refine Wq.var zero_24 sz_24 rfl rfl rfl hA fun H1 nx1 hA1 => ?_
    refine Wq.call hq hA1 fun H2 nx2 hA2 => ?_
    rw [rdAdd_txt 9 true [32, 42, 32] _ (by simp; omega), optK_some, rdAdd_txt 9 false s _ (by simp; omega), optK_some]
    have := ih (i + 1) (s ++ ([32, 42, 32] ++ bx true c)) H2 nx2 hd' (by omega) (by simp only [List.length_append, List.length_cons, List.length_nil]; omega) hA2
    rw [List.append_assoc] at this
    exact this
theorem w_15_11 {nx0 : Nat} {H0 : T OB} (t : Ty) (l : List Ty) (hp : ∀ c, c ∈ l → okP c) (hs : ∀ c, c ∈ l → tOk c) (hl : l.length < 1125899906842624) : ∀ (r : List Ty) (i : Nat) (s : List UInt8) (H : T OB) (nx : Nat), l.drop i = r → i ≤ l.length →
    s.length + (r.flatMap fun c => [44, 32] ++ tx c).length + t.name.length ≤ 1000000 → Ag nx0 H0 nx H →
    Wq P pl X (.jump (l15_11 (eptrV t.v) (txt s) (rowV 4 (l.map Ty.v)) (i64 (l.length : Int)) (i64 (i : Int)) H nx)) nx0 H0 (txt (s ++ ((r.flatMap fun c => [44, 32] ++ tx c) ++ ([41, 32] ++ t.name)))) := by
  intro r
  induction r with
  | nil =>
    intro i s H nx hd hi hlen hA
    have hil := drop_nil hd hi
    rw [List.flatMap_nil] at hlen ⊢
    refine Wq.jmp (q15_11 ..) (fun _ => rfl) ?_
    simp only [List.length_nil] at hlen
    simp only [oneCell_int, oneCell_str, oneCell_bool, oneCell_row, oneCell_ep, oneCell_nilp, cond_true, cond_false, optK_some, ldV_int, ldV_str, ldV_bool, ldV_row, ldV_ep, ldV_nilp, rdBin_add, rdBin_sub, rdBin_mul, rdBin_lss, rdBin_leq, rdBin_gtr, rdBin_geq, rdBin_eql, rdBin_neq, rdBin_seql, rdBin_sneq, unV_not, bvK_bool, bK_true, bK_false, Bool.not_true, Bool.not_false, Bool.not_not, rdNil_ep, rdNil_ptr, oneCell_sl, ldV_sl, vEq_self, List.length_nil, Int.cast_ofNat_Int, Int.reduceEq, Int.reduceLT, Int.reduceLE, decide_true, decide_false, eq_self, Bool.and_self, fa_24_0, fa_24_1, fa_24_2, fa_24_3, fp_24_0, fp_24_1, fp_24_2, fp_24_3, ld_3, ld_5, ld_9, ld_22, ld_24, ld_161, len_9, len_22, lenS_22, lenN_22, len_82, lenS_82, lenN_82, hil, not_lt_len, t.v_eq]
    rw [rdAdd_txt 9 true s [41, 32] (by simp; omega), optK_some]
    rw [rdAdd_txt 9 false _ t.name (by simp; omega), optK_some]
    exact Wq.retE (by simp) hA
  | cons c r ih =>
    intro i s H nx hd hi hlen hA
    obtain ⟨hg, hlt, hd'⟩ := drop_cons hd
    have hc : c ∈ l := List.mem_of_getElem? hg
    have hg' : (l.map Ty.v)[i]? = some c.v := by simp [hg]
    rw [List.flatMap_cons] at hlen ⊢
    simp only [List.length_append, List.length_cons, List.length_nil] at hlen
    have hq := hp c hc (hs c hc) (by omega) 0 (.inl rfl)
    rw [hx_zero] at hq
    rw [c.v_eq] at hg' hq
    refine Wq.jmp (q15_11 ..) (fun _ => rfl) ?_
    rw [t.v_eq] at ih ⊢
    simp only [oneCell_int, oneCell_str, oneCell_bool, oneCell_row, oneCell_ep, oneCell_nilp, cond_true, cond_false, optK_some, ldV_int, ldV_str, ldV_bool, ldV_row, ldV_ep, ldV_nilp, rdBin_add, rdBin_sub, rdBin_mul, rdBin_lss, rdBin_leq, rdBin_gtr, rdBin_geq, rdBin_eql, rdBin_neq, rdBin_seql, rdBin_sneq, unV_not, bvK_bool, bK_true, bK_false, Bool.not_true, Bool.not_false, Bool.not_not, rdNil_ep, rdNil_ptr, oneCell_sl, ldV_sl, vEq_self, List.length_nil, Int.cast_ofNat_Int, Int.reduceEq, Int.reduceLT, Int.reduceLE, decide_true, decide_false, eq_self, Bool.and_self, fa_24_0, fa_24_1, fa_24_2, fa_24_3, fp_24_0, fp_24_1, fp_24_2, fp_24_3, ld_3, ld_5, ld_9, ld_22, ld_24, ld_161, len_9, len_22, lenS_22, lenN_22, len_82, lenS_82, lenN_82, is_lt_len hlt, ix_22 hg', wrap_succ (show i < 9223372036854775807 by omega)]
    refine Wq.var zero_24 sz_24 rfl rfl rfl hA fun H1 nx1 hA1 => ?_
    refine Wq.call hq hA1 fun H2 nx2 hA2 => ?_
    rw [rdAdd_txt 9 true [44, 32] _ (by simp; omega), optK_some, rdAdd_txt 9 false s _ (by simp; omega), optK_some]
    have := ih (i + 1) (s ++ ([44, 32] ++ tx c)) H2 nx2 hd' (by omega) (by simp only [List.length_append, List.length_cons, List.length_nil]; omega) hA2
    simpa [List.append_assoc] using this
theorem okP_all (t : Ty) : okP t := by
  refine Ty.ind (p := okP) (fun t hp => ?_) t
  intro hs hlen hard hh
  have hs0 := hs
  rw [tOk_iff] at hs
  refine Pure.of rfl fun H nx => ?_
  rw [q15]
  refine Wq.natF' (.refl _ _) fun hA => ?_
  -- neither a function nor a tuple
  have L34 : ∀ (b : Bool), t.k = 2 → ¬ isArr t → (b = true ↔ isTup t) → Wq P pl X (.jump (l15_34 (i64 hard) (eptrV t.v) b H (nx + 1))) nx H (txt (hx hard t)) := by
    intro b hk na hb
    refine Wq.jmp (q15_34 ..) (fun _ => rfl) ?_
    have hbody : tx t = body t.n t.name (t.l.map fun c => (c, tx c)) := by rw [tx_eq, if_neg (by rw [hk]; decide), if_pos hk]
    refine Wq.bK (fun h => ?_) (fun h => ?_)
    · have ht := hb.1 h
      rw [hx_tup ht hh]
      match hl : t.l, ht.2.2 with
      | a :: c2 :: r, _ =>
        have ha : a ∈ t.l := by rw [hl]; simp
        have e2 : tx t = bx true a ++ (c2 :: r).flatMap fun x => [32, 42, 32] ++ bx true x := by
          have e1 : ((c2 :: r).map fun c => (c, tx c)).flatMap (fun x => [32, 42, 32] ++ wr true x.1 x.2) = (c2 :: r).flatMap fun x => [32, 42, 32] ++ bx true x := by rw [List.flatMap_map]; rfl
          simp only [List.map_cons] at e1
          rw [hbody, hl]
          simp only [List.map_cons, body]
          rw [if_neg (fun q => by have := q.1; have := ht.2.1; omega), if_pos ht.2.1, e1]; rfl
        rw [e2] at hlen ⊢
        rw [List.length_append] at hlen
        have hbl := bx_length true a
        have hq := hp a ha (hs.2.2.2 a ha) (by omega) 2 (.inr (.inr rfl))
        rw [hx_two] at hq
        have g0 : ((a :: c2 :: r).map Ty.v)[0]? = some a.v := rfl
        rw [a.v_eq] at g0 hq
        have i0 := ix_22 g0 .i64
        rw [show ((0 : Nat) : Int) = 0 from rfl] at i0
        have hsl : ∀ H : T OB, rdSlice P H 22 (some (rowV 4 ((a :: c2 :: r).map Ty.v))) (some (some (.int .i64 1))) (some none) (some none) = some (rowV 4 ((c2 :: r).map Ty.v)) := fun H => rdSlice_one _ (by simp)
        simp only [oneCell_int, oneCell_str, oneCell_bool, oneCell_row, oneCell_ep, oneCell_nilp, cond_true, cond_false, optK_some, ldV_int, ldV_str, ldV_bool, ldV_row, ldV_ep, ldV_nilp, rdBin_add, rdBin_sub, rdBin_mul, rdBin_lss, rdBin_leq, rdBin_gtr, rdBin_geq, rdBin_eql, rdBin_neq, rdBin_seql, rdBin_sneq, unV_not, bvK_bool, bK_true, bK_false, Bool.not_true, Bool.not_false, Bool.not_not, rdNil_ep, rdNil_ptr, oneCell_sl, ldV_sl, vEq_self, List.length_nil, Int.cast_ofNat_Int, Int.reduceEq, Int.reduceLT, Int.reduceLE, decide_true, decide_false, eq_self, Bool.and_self, fa_24_0, fa_24_1, fa_24_2, fa_24_3, fp_24_0, fp_24_1, fp_24_2, fp_24_3, ld_3, ld_5, ld_9, ld_22, ld_24, ld_161, len_9, len_22, lenS_22, lenN_22, len_82, lenS_82, lenN_82, t.v_eq, hl, i0]
        refine Wq.call hq hA fun H1 nx1 hA1 => ?_
        simp only [oneCell_int, oneCell_str, oneCell_bool, oneCell_row, oneCell_ep, oneCell_nilp, cond_true, cond_false, optK_some, ldV_int, ldV_str, ldV_bool, ldV_row, ldV_ep, ldV_nilp, rdBin_add, rdBin_sub, rdBin_mul, rdBin_lss, rdBin_leq, rdBin_gtr, rdBin_geq, rdBin_eql, rdBin_neq, rdBin_seql, rdBin_sneq, unV_not, bvK_bool, bK_true, bK_false, Bool.not_true, Bool.not_false, Bool.not_not, rdNil_ep, rdNil_ptr, oneCell_sl, ldV_sl, vEq_self, List.length_nil, Int.cast_ofNat_Int, Int.reduceEq, Int.reduceLT, Int.reduceLE, decide_true, decide_false, eq_self, Bool.and_self, fa_24_0, fa_24_1, fa_24_2, fa_24_3, fp_24_0, fp_24_1, fp_24_2, fp_24_3, ld_3, ld_5, ld_9, ld_22, ld_24, ld_161, len_9, len_22, lenS_22, lenN_22, len_82, lenS_82, lenN_82, hsl, List.length_map]
        exact w_15_39 hard (c2 :: r) (fun c hc => hp c (by rw [hl]; exact List.mem_cons_of_mem _ hc)) (fun c hc => hs.2.2.2 c (by rw [hl]; exact List.mem_cons_of_mem _ hc)) (by have := hs.2.2.1; rw [hl] at this; simp at this ⊢; omega) (c2 :: r) 0 _ _ _ rfl (Nat.zero_le _) (by omega) hA1
      | [], hq => exact absurd hq (by simp)
      | [a], hq => exact absurd hq (by simp)
    · have nt : ¬ isTup t := fun q => by rw [hb.2 q] at h; cases h
      rw [hx_no na nt]
      match hl : t.l with
      | [] =>
        have e2 : tx t = t.name := by rw [hbody, hl]; rfl
        rw [e2]
        simp only [oneCell_int, oneCell_str, oneCell_bool, oneCell_row, oneCell_ep, oneCell_nilp, cond_true, cond_false, optK_some, ldV_int, ldV_str, ldV_bool, ldV_row, ldV_ep, ldV_nilp, rdBin_add, rdBin_sub, rdBin_mul, rdBin_lss, rdBin_leq, rdBin_gtr, rdBin_geq, rdBin_eql, rdBin_neq, rdBin_seql, rdBin_sneq, unV_not, bvK_bool, bK_true, bK_false, Bool.not_true, Bool.not_false, Bool.not_not, rdNil_ep, rdNil_ptr, oneCell_sl, ldV_sl, vEq_self, List.length_nil, Int.cast_ofNat_Int, Int.reduceEq, Int.reduceLT, Int.reduceLE, decide_true, decide_false, eq_self, Bool.and_self, fa_24_0, fa_24_1, fa_24_2, fa_24_3, fp_24_0, fp_24_1, fp_24_2, fp_24_3, ld_3, ld_5, ld_9, ld_22, ld_24, ld_161, len_9, len_22, lenS_22, lenN_22, len_82, lenS_82, lenN_82, t.v_eq, hl, List.map_nil, List.length_nil]
        exact Wq.ret hA
      | [a] =>
        have ha : a ∈ t.l := by rw [hl]; simp
        have e2 : tx t = bx true a ++ (32 :: t.name) := by rw [hbody, hl]; rfl
        rw [e2] at hlen ⊢
        simp only [List.length_append, List.length_cons] at hlen
        have hbl := bx_length true a
        have hq := hp a ha (hs.2.2.2 a ha) (by omega) 2 (.inr (.inr rfl))
        rw [hx_two] at hq
        have g0 : ([a].map Ty.v)[0]? = some a.v := rfl
        rw [a.v_eq] at g0 hq
        have i0 := ix_22 g0 .i64
        rw [show ((0 : Nat) : Int) = 0 from rfl] at i0
        simp only [oneCell_int, oneCell_str, oneCell_bool, oneCell_row, oneCell_ep, oneCell_nilp, cond_true, cond_false, optK_some, ldV_int, ldV_str, ldV_bool, ldV_row, ldV_ep, ldV_nilp, rdBin_add, rdBin_sub, rdBin_mul, rdBin_lss, rdBin_leq, rdBin_gtr, rdBin_geq, rdBin_eql, rdBin_neq, rdBin_seql, rdBin_sneq, unV_not, bvK_bool, bK_true, bK_false, Bool.not_true, Bool.not_false, Bool.not_not, rdNil_ep, rdNil_ptr, oneCell_sl, ldV_sl, vEq_self, List.length_nil, Int.cast_ofNat_Int, Int.reduceEq, Int.reduceLT, Int.reduceLE, decide_true, decide_false, eq_self, Bool.and_self, fa_24_0, fa_24_1, fa_24_2, fa_24_3, fp_24_0, fp_24_1, fp_24_2, fp_24_3, ld_3, ld_5, ld_9, ld_22, ld_24, ld_161, len_9, len_22, lenS_22, lenN_22, len_82, lenS_82, lenN_82, t.v_eq, hl, i0, List.length_map, List.length_singleton, show decide (((1 : Nat) : Int) = 0) = false from rfl, show decide (((1 : Nat) : Int) = 1) = true from rfl]
        refine Wq.call hq hA fun H1 nx1 hA1 => ?_
        rw [rdAdd_txt 9 true _ [32] (by simp; omega), optK_some, rdAdd_txt 9 false _ t.name (by simp; omega), optK_some]
        exact Wq.retE (by simp) hA1
      | a :: c2 :: r =>
        have ha : a ∈ t.l := by rw [hl]; simp
        have h5 : ¬ (t.n = 5 ∧ r.isEmpty = true) := fun q => na ⟨hk, q.1, by rw [hl, List.isEmpty_iff.1 q.2]; rfl⟩
        have h6 : t.n ≠ 6 := fun q => nt ⟨hk, q, by rw [hl]; simp⟩
        have e2 : tx t = 40 :: (tx a ++ (((c2 :: r).flatMap fun x => [44, 32] ++ tx x) ++ ([41, 32] ++ t.name))) := by
          have e1 : ((c2 :: r).map fun c => (c, tx c)).flatMap (fun x => [44, 32] ++ x.2) = (c2 :: r).flatMap fun x => [44, 32] ++ tx x := by rw [List.flatMap_map]
          simp only [List.map_cons] at e1
          rw [hbody, hl]
          simp only [List.map_cons, body]
          rw [if_neg (fun q => h5 ⟨q.1, by have := q.2; rw [List.isEmpty_iff, List.map_eq_nil_iff] at this; rw [this]; rfl⟩), if_neg h6, e1]
        rw [e2] at hlen ⊢
        simp only [List.length_append, List.length_cons, List.length_nil] at hlen
        have hq := hp a ha (hs.2.2.2 a ha) (by omega) 0 (.inl rfl)
        rw [hx_zero] at hq
        have g0 : ((a :: c2 :: r).map Ty.v)[0]? = some a.v := rfl
        rw [a.v_eq] at g0 hq
        have i0 := ix_22 g0 .i64
        rw [show ((0 : Nat) : Int) = 0 from rfl] at i0
        have hsl : ∀ H : T OB, rdSlice P H 22 (some (rowV 4 ((a :: c2 :: r).map Ty.v))) (some (some (.int .i64 1))) (some none) (some none) = some (rowV 4 ((c2 :: r).map Ty.v)) := fun H => rdSlice_one _ (by simp)
        have l0 : decide ((((a :: c2 :: r).length : Nat) : Int) = 0) = false := by simp; omega
        have l1 : decide ((((a :: c2 :: r).length : Nat) : Int) = 1) = false := by simp; omega
        simp only [oneCell_int, oneCell_str, oneCell_bool, oneCell_row, oneCell_ep, oneCell_nilp, cond_true, cond_false, optK_some, ldV_int, ldV_str, ldV_bool, ldV_row, ldV_ep, ldV_nilp, rdBin_add, rdBin_sub, rdBin_mul, rdBin_lss, rdBin_leq, rdBin_gtr, rdBin_geq, rdBin_eql, rdBin_neq, rdBin_seql, rdBin_sneq, unV_not, bvK_bool, bK_true, bK_false, Bool.not_true, Bool.not_false, Bool.not_not, rdNil_ep, rdNil_ptr, oneCell_sl, ldV_sl, vEq_self, List.length_nil, Int.cast_ofNat_Int, Int.reduceEq, Int.reduceLT, Int.reduceLE, decide_true, decide_false, eq_self, Bool.and_self, fa_24_0, fa_24_1, fa_24_2, fa_24_3, fp_24_0, fp_24_1, fp_24_2, fp_24_3, ld_3, ld_5, ld_9, ld_22, ld_24, ld_161, len_9, len_22, lenS_22, lenN_22, len_82, lenS_82, lenN_82, t.v_eq, hl, i0, List.length_map, l0, l1]
        refine Wq.call hq hA fun H1 nx1 hA1 => ?_
        rw [rdAdd_txt 9 true [40] _ (by simp; omega), optK_some]
        simp only [oneCell_int, oneCell_str, oneCell_bool, oneCell_row, oneCell_ep, oneCell_nilp, cond_true, cond_false, optK_some, ldV_int, ldV_str, ldV_bool, ldV_row, ldV_ep, ldV_nilp, rdBin_add, rdBin_sub, rdBin_mul, rdBin_lss, rdBin_leq, rdBin_gtr, rdBin_geq, rdBin_eql, rdBin_neq, rdBin_seql, rdBin_sneq, unV_not, bvK_bool, bK_true, bK_false, Bool.not_true, Bool.not_false, Bool.not_not, rdNil_ep, rdNil_ptr, oneCell_sl, ldV_sl, vEq_self, List.length_nil, Int.cast_ofNat_Int, Int.reduceEq, Int.reduceLT, Int.reduceLE, decide_true, decide_false, eq_self, Bool.and_self, fa_24_0, fa_24_1, fa_24_2, fa_24_3, fp_24_0, fp_24_1, fp_24_2, fp_24_3, ld_3, ld_5, ld_9, ld_22, ld_24, ld_161, len_9, len_22, lenS_22, lenN_22, len_82, lenS_82, lenN_82, hsl, List.length_map]
        have := w_15_11 t (c2 :: r) (fun c hc => hp c (by rw [hl]; exact List.mem_cons_of_mem _ hc)) (fun c hc => hs.2.2.2 c (by rw [hl]; exact List.mem_cons_of_mem _ hc)) (by have := hs.2.2.1; rw [hl] at this; simp at this ⊢; omega) (c2 :: r) 0 ([40] ++ tx a) _ _ rfl (Nat.zero_le _) (by simp only [List.length_append, List.length_cons, List.length_nil]; omega) hA1
        rw [t.v_eq, hl] at this
        simpa [List.append_assoc] using this
  have L30 : ∀ (a : Bool), t.k = 2 → (a = true ↔ isArr t) → Wq P pl X (.jump (l15_30 (i64 hard) (eptrV t.v) a H (nx + 1))) nx H (txt (hx hard t)) := by
    intro a hk ha
    refine Wq.jmp (q15_30 ..) (fun _ => rfl) ?_
    refine Wq.bK (fun h => ?_) (fun h => ?_)
    · rw [hx_arr (ha.1 h) hh]
      obtain ⟨x, y, hl⟩ := two_of (ha.1 h).2.2
      have e := tx_arr (ha.1 h) hl
      rw [e] at hlen ⊢
      simp only [List.length_append] at hlen
      have hx : x ∈ t.l := by rw [hl]; simp
      have hy : y ∈ t.l := by rw [hl]; simp
      have hbl := bx_length false x
      have px := hp x hx (hs.2.2.2 x hx) (by omega) 1 (.inr (.inl rfl))
      have py := hp y hy (hs.2.2.2 y hy) (by omega) 0 (.inl rfl)
      rw [hx_one] at px
      rw [hx_zero] at py
      have g0 : (t.l.map Ty.v)[0]? = some x.v := by rw [hl]; rfl
      have g1 : (t.l.map Ty.v)[1]? = some y.v := by rw [hl]; rfl
      rw [x.v_eq] at g0 px
      rw [y.v_eq] at g1 py
      have i0 := ix_22 g0 .i64
      have i1 := ix_22 g1 .i64
      rw [show ((0 : Nat) : Int) = 0 from rfl] at i0
      rw [show ((1 : Nat) : Int) = 1 from rfl] at i1
      simp only [oneCell_int, oneCell_str, oneCell_bool, oneCell_row, oneCell_ep, oneCell_nilp, cond_true, cond_false, optK_some, ldV_int, ldV_str, ldV_bool, ldV_row, ldV_ep, ldV_nilp, rdBin_add, rdBin_sub, rdBin_mul, rdBin_lss, rdBin_leq, rdBin_gtr, rdBin_geq, rdBin_eql, rdBin_neq, rdBin_seql, rdBin_sneq, unV_not, bvK_bool, bK_true, bK_false, Bool.not_true, Bool.not_false, Bool.not_not, rdNil_ep, rdNil_ptr, oneCell_sl, ldV_sl, vEq_self, List.length_nil, Int.cast_ofNat_Int, Int.reduceEq, Int.reduceLT, Int.reduceLE, decide_true, decide_false, eq_self, Bool.and_self, fa_24_0, fa_24_1, fa_24_2, fa_24_3, fp_24_0, fp_24_1, fp_24_2, fp_24_3, ld_3, ld_5, ld_9, ld_22, ld_24, ld_161, len_9, len_22, lenS_22, lenN_22, len_82, lenS_82, lenN_82, t.v_eq, i0, i1]
      refine Wq.call px hA fun H1 nx1 hA1 => ?_
      simp only [oneCell_int, oneCell_str, oneCell_bool, oneCell_row, oneCell_ep, oneCell_nilp, cond_true, cond_false, optK_some, ldV_int, ldV_str, ldV_bool, ldV_row, ldV_ep, ldV_nilp, rdBin_add, rdBin_sub, rdBin_mul, rdBin_lss, rdBin_leq, rdBin_gtr, rdBin_geq, rdBin_eql, rdBin_neq, rdBin_seql, rdBin_sneq, unV_not, bvK_bool, bK_true, bK_false, Bool.not_true, Bool.not_false, Bool.not_not, rdNil_ep, rdNil_ptr, oneCell_sl, ldV_sl, vEq_self, List.length_nil, Int.cast_ofNat_Int, Int.reduceEq, Int.reduceLT, Int.reduceLE, decide_true, decide_false, eq_self, Bool.and_self, fa_24_0, fa_24_1, fa_24_2, fa_24_3, fp_24_0, fp_24_1, fp_24_2, fp_24_3, ld_3, ld_5, ld_9, ld_22, ld_24, ld_161, len_9, len_22, lenS_22, lenN_22, len_82, lenS_82, lenN_82, Bool.and_true]
      rw [rdAdd_txt 9 true _ [32, 45, 62, 32] (by simp; omega), optK_some]
      refine Wq.call py hA1 fun H2 nx2 hA2 => ?_
      rw [rdAdd_txt 9 true _ [32, 45, 62, 32] (by simp; omega)]
      simp only [oneCell_int, oneCell_str, oneCell_bool, oneCell_row, oneCell_ep, oneCell_nilp, cond_true, cond_false, optK_some, ldV_int, ldV_str, ldV_bool, ldV_row, ldV_ep, ldV_nilp, rdBin_add, rdBin_sub, rdBin_mul, rdBin_lss, rdBin_leq, rdBin_gtr, rdBin_geq, rdBin_eql, rdBin_neq, rdBin_seql, rdBin_sneq, unV_not, bvK_bool, bK_true, bK_false, Bool.not_true, Bool.not_false, Bool.not_not, rdNil_ep, rdNil_ptr, oneCell_sl, ldV_sl, vEq_self, List.length_nil, Int.cast_ofNat_Int, Int.reduceEq, Int.reduceLT, Int.reduceLE, decide_true, decide_false, eq_self, Bool.and_self, fa_24_0, fa_24_1, fa_24_2, fa_24_3, fp_24_0, fp_24_1, fp_24_2, fp_24_3, ld_3, ld_5, ld_9, ld_22, ld_24, ld_161, len_9, len_22, lenS_22, lenN_22, len_82, lenS_82, lenN_82, Bool.and_true]
      rw [rdAdd_txt 9 false _ _ (by simp; omega), optK_some]
      unfold wrH
      refine Wq.ite (fun h1 => ?_) (fun h1 => ?_)
      · rw [if_pos h1, rdAdd_txt 9 true [40] _ (by simp; omega), optK_some, rdAdd_txt 9 true _ [41] (by simp; omega), optK_some]
        exact Wq.retE (by simp) hA2
      · rw [if_neg h1]
        exact Wq.retE (by simp) hA2
    · have na : ¬ isArr t := fun q => by rw [ha.2 q] at h; cases h
      rw [t.v_eq] at L34 ⊢
      simp only [oneCell_int, oneCell_str, oneCell_bool, oneCell_row, oneCell_ep, oneCell_nilp, cond_true, cond_false, optK_some, ldV_int, ldV_str, ldV_bool, ldV_row, ldV_ep, ldV_nilp, rdBin_add, rdBin_sub, rdBin_mul, rdBin_lss, rdBin_leq, rdBin_gtr, rdBin_geq, rdBin_eql, rdBin_neq, rdBin_seql, rdBin_sneq, unV_not, bvK_bool, bK_true, bK_false, Bool.not_true, Bool.not_false, Bool.not_not, rdNil_ep, rdNil_ptr, oneCell_sl, ldV_sl, vEq_self, List.length_nil, Int.cast_ofNat_Int, Int.reduceEq, Int.reduceLT, Int.reduceLE, decide_true, decide_false, eq_self, Bool.and_self, fa_24_0, fa_24_1, fa_24_2, fa_24_3, fp_24_0, fp_24_1, fp_24_2, fp_24_3, ld_3, ld_5, ld_9, ld_22, ld_24, ld_161, len_9, len_22, lenS_22, lenN_22, len_82, lenS_82, lenN_82, List.length_map]
      refine Wq.ite (fun hn => ?_) (fun hn => L34 _ hk na (by unfold isTup; simp [hn]))
      exact L34 _ hk na (by unfold isTup; rw [decide_eq_true_eq]; omega)
  rw [t.v_eq] at L30 ⊢
  simp only [oneCell_int, oneCell_str, oneCell_bool, oneCell_row, oneCell_ep, oneCell_nilp, cond_true, cond_false, optK_some, ldV_int, ldV_str, ldV_bool, ldV_row, ldV_ep, ldV_nilp, rdBin_add, rdBin_sub, rdBin_mul, rdBin_lss, rdBin_leq, rdBin_gtr, rdBin_geq, rdBin_eql, rdBin_neq, rdBin_seql, rdBin_sneq, unV_not, bvK_bool, bK_true, bK_false, Bool.not_true, Bool.not_false, Bool.not_not, rdNil_ep, rdNil_ptr, oneCell_sl, ldV_sl, vEq_self, List.length_nil, Int.cast_ofNat_Int, Int.reduceEq, Int.reduceLT, Int.reduceLE, decide_true, decide_false, eq_self, Bool.and_self, fa_24_0, fa_24_1, fa_24_2, fa_24_3, fp_24_0, fp_24_1, fp_24_2, fp_24_3, ld_3, ld_5, ld_9, ld_22, ld_24, ld_161, len_9, len_22, lenS_22, lenN_22, len_82, lenS_82, lenN_82]
  refine Wq.ite (fun h1 => ?_) (fun h1 => ?_)
  · have na : ¬ isArr t := fun q => by have := q.1; omega
    have nt : ¬ isTup t := fun q => by have := q.1; omega
    rw [hx_no na nt]
    refine Wq.call (pu_24 t.n hs.1) hA fun H1 nx1 hA1 => ?_
    exact Wq.retE (by rw [tx_eq, if_pos h1]) hA1
  · refine Wq.bK (fun h => ?_) (fun h => ?_)
    · have hk : t.k ≠ 2 := by simpa using h
      have na : ¬ isArr t := fun q => hk q.1
      have nt : ¬ isTup t := fun q => hk q.1
      rw [hx_no na nt]
      exact Wq.retE (by rw [tx_eq, if_neg h1, if_neg hk]) hA
    · have hk : t.k = 2 := by simpa using h
      simp only [oneCell_int, oneCell_str, oneCell_bool, oneCell_row, oneCell_ep, oneCell_nilp, cond_true, cond_false, optK_some, ldV_int, ldV_str, ldV_bool, ldV_row, ldV_ep, ldV_nilp, rdBin_add, rdBin_sub, rdBin_mul, rdBin_lss, rdBin_leq, rdBin_gtr, rdBin_geq, rdBin_eql, rdBin_neq, rdBin_seql, rdBin_sneq, unV_not, bvK_bool, bK_true, bK_false, Bool.not_true, Bool.not_false, Bool.not_not, rdNil_ep, rdNil_ptr, oneCell_sl, ldV_sl, vEq_self, List.length_nil, Int.cast_ofNat_Int, Int.reduceEq, Int.reduceLT, Int.reduceLE, decide_true, decide_false, eq_self, Bool.and_self, fa_24_0, fa_24_1, fa_24_2, fa_24_3, fp_24_0, fp_24_1, fp_24_2, fp_24_3, ld_3, ld_5, ld_9, ld_22, ld_24, ld_161, len_9, len_22, lenS_22, lenN_22, len_82, lenS_82, lenN_82, List.length_map]
      refine Wq.ite (fun hn => ?_) (fun hn => L30 _ hk (by unfold isArr; simp [hn]))
      exact L30 _ hk (by unfold isArr; rw [decide_eq_true_eq]; omega)
theorem pu_6 (t : Ty) (hs : tOk t) (hlen : (tx t).length ≤ 1000000) : Pu 6 [t.v] (txt (tx t)) := Pure.of rfl fun H nx => by
  rw [q6]
  refine Wq.natF' (.refl _ _) fun hA => ?_
  have hq := okP_all t hs hlen 0 (.inl rfl)
  rw [hx_zero] at hq
  rw [t.v_eq] at hq ⊢
  simp only [oneCell_int, oneCell_str, oneCell_bool, oneCell_row, oneCell_ep, oneCell_nilp, cond_true, cond_false, optK_some, ldV_int, ldV_str, ldV_bool, ldV_row, ldV_ep, ldV_nilp, rdBin_add, rdBin_sub, rdBin_mul, rdBin_lss, rdBin_leq, rdBin_gtr, rdBin_geq, rdBin_eql, rdBin_neq, rdBin_seql, rdBin_sneq, unV_not, bvK_bool, bK_true, bK_false, Bool.not_true, Bool.not_false, Bool.not_not, rdNil_ep, rdNil_ptr, oneCell_sl, ldV_sl, vEq_self, List.length_nil, Int.cast_ofNat_Int, Int.reduceEq, Int.reduceLT, Int.reduceLE, decide_true, decide_false, eq_self, Bool.and_self, fa_24_0, fa_24_1, fa_24_2, fa_24_3, fp_24_0, fp_24_1, fp_24_2, fp_24_3, ld_3, ld_5, ld_9, ld_22, ld_24, ld_161, len_9, len_22, lenS_22, lenN_22, len_82, lenS_82, lenN_82]
  refine Wq.call hq hA fun H1 nx1 hA1 => ?_
  exact Wq.ret hA1
/-- The law: true for every type. -/
theorem pu_3 (t : Ty) (hs : tOk t) : Pu 3 [t.v] (.bool true) := Pure.of rfl fun H nx => by
  rw [q3]
  refine Wq.natF' (.refl _ _) fun hA => ?_
  have known : ∀ {H1 : T OB} {nx1 : Nat} {k p : Value → T OB → Nat → Q}, Ag nx H nx1 H1 → (∀ H' nx', Ag nx H nx' H' → Wq P pl X (k (.bool true) H' nx') nx H (.bool true)) → Wq P pl X (callQ (.call 5 [] false none H1 nx1) k p) nx H (.bool true) := fun hA hk => Wq.call (u := .bool true) (Pure.ext rfl) hA hk
  have L6 : ∀ (b : Bool) H1 nx1, Ag nx H nx1 H1 → (b = false → lt t 500 ≤ 500 ∧ t.name.length ≤ 100) → Wq P pl X (.jump (l3_6 (eptrV t.v) b H1 nx1)) nx H (.bool true) := by
    intro b H1 nx1 hA1 hb
    refine Wq.jmp (q3_6 ..) (fun _ => rfl) ?_
    refine Wq.bK (fun h => ?_) (fun h => ?_)
    · refine known hA1 fun H2 nx2 hA2 => ?_
      simp only [oneCell_int, oneCell_str, oneCell_bool, oneCell_row, oneCell_ep, oneCell_nilp, cond_true, cond_false, optK_some, ldV_int, ldV_str, ldV_bool, ldV_row, ldV_ep, ldV_nilp, rdBin_add, rdBin_sub, rdBin_mul, rdBin_lss, rdBin_leq, rdBin_gtr, rdBin_geq, rdBin_eql, rdBin_neq, rdBin_seql, rdBin_sneq, unV_not, bvK_bool, bK_true, bK_false, Bool.not_true, Bool.not_false, Bool.not_not, rdNil_ep, rdNil_ptr, oneCell_sl, ldV_sl, vEq_self, List.length_nil, Int.cast_ofNat_Int, Int.reduceEq, Int.reduceLT, Int.reduceLE, decide_true, decide_false, eq_self, Bool.and_self, fa_24_0, fa_24_1, fa_24_2, fa_24_3, fp_24_0, fp_24_1, fp_24_2, fp_24_3, ld_3, ld_5, ld_9, ld_22, ld_24, ld_161, len_9, len_22, lenS_22, lenN_22, len_82, lenS_82, lenN_82]
      exact Wq.ret hA2
    · obtain ⟨h1, h2⟩ := hb h
      have hlen := okT_all t hs 500 (by omega) (by omega) h1
      have p6 := pu_6 t hs (by omega)
      have p7 := okR_all t hs (by omega)
      rw [t.v_eq] at p6 p7 ⊢
      simp only [oneCell_int, oneCell_str, oneCell_bool, oneCell_row, oneCell_ep, oneCell_nilp, cond_true, cond_false, optK_some, ldV_int, ldV_str, ldV_bool, ldV_row, ldV_ep, ldV_nilp, rdBin_add, rdBin_sub, rdBin_mul, rdBin_lss, rdBin_leq, rdBin_gtr, rdBin_geq, rdBin_eql, rdBin_neq, rdBin_seql, rdBin_sneq, unV_not, bvK_bool, bK_true, bK_false, Bool.not_true, Bool.not_false, Bool.not_not, rdNil_ep, rdNil_ptr, oneCell_sl, ldV_sl, vEq_self, List.length_nil, Int.cast_ofNat_Int, Int.reduceEq, Int.reduceLT, Int.reduceLE, decide_true, decide_false, eq_self, Bool.and_self, fa_24_0, fa_24_1, fa_24_2, fa_24_3, fp_24_0, fp_24_1, fp_24_2, fp_24_3, ld_3, ld_5, ld_9, ld_22, ld_24, ld_161, len_9, len_22, lenS_22, lenN_22, len_82, lenS_82, lenN_82]
      refine Wq.call p6 hA1 fun H2 nx2 hA2 => ?_
      refine Wq.call p7 hA2 fun H3 nx3 hA3 => ?_
      simp only [oneCell_int, oneCell_str, oneCell_bool, oneCell_row, oneCell_ep, oneCell_nilp, cond_true, cond_false, optK_some, ldV_int, ldV_str, ldV_bool, ldV_row, ldV_ep, ldV_nilp, rdBin_add, rdBin_sub, rdBin_mul, rdBin_lss, rdBin_leq, rdBin_gtr, rdBin_geq, rdBin_eql, rdBin_neq, rdBin_seql, rdBin_sneq, unV_not, bvK_bool, bK_true, bK_false, Bool.not_true, Bool.not_false, Bool.not_not, rdNil_ep, rdNil_ptr, oneCell_sl, ldV_sl, vEq_self, List.length_nil, Int.cast_ofNat_Int, Int.reduceEq, Int.reduceLT, Int.reduceLE, decide_true, decide_false, eq_self, Bool.and_self, fa_24_0, fa_24_1, fa_24_2, fa_24_3, fp_24_0, fp_24_1, fp_24_2, fp_24_3, ld_3, ld_5, ld_9, ld_22, ld_24, ld_161, len_9, len_22, lenS_22, lenN_22, len_82, lenS_82, lenN_82]
      refine known hA3 fun H4 nx4 hA4 => ?_
      simp only [oneCell_int, oneCell_str, oneCell_bool, oneCell_row, oneCell_ep, oneCell_nilp, cond_true, cond_false, optK_some, ldV_int, ldV_str, ldV_bool, ldV_row, ldV_ep, ldV_nilp, rdBin_add, rdBin_sub, rdBin_mul, rdBin_lss, rdBin_leq, rdBin_gtr, rdBin_geq, rdBin_eql, rdBin_neq, rdBin_seql, rdBin_sneq, unV_not, bvK_bool, bK_true, bK_false, Bool.not_true, Bool.not_false, Bool.not_not, rdNil_ep, rdNil_ptr, oneCell_sl, ldV_sl, vEq_self, List.length_nil, Int.cast_ofNat_Int, Int.reduceEq, Int.reduceLT, Int.reduceLE, decide_true, decide_false, eq_self, Bool.and_self, fa_24_0, fa_24_1, fa_24_2, fa_24_3, fp_24_0, fp_24_1, fp_24_2, fp_24_3, ld_3, ld_5, ld_9, ld_22, ld_24, ld_161, len_9, len_22, lenS_22, lenN_22, len_82, lenS_82, lenN_82]
      exact Wq.ret hA4
  have p4 := pu_4 t 500 hs
  rw [t.v_eq] at p4 L6 ⊢
  simp only [oneCell_int, oneCell_str, oneCell_bool, oneCell_row, oneCell_ep, oneCell_nilp, cond_true, cond_false, optK_some, ldV_int, ldV_str, ldV_bool, ldV_row, ldV_ep, ldV_nilp, rdBin_add, rdBin_sub, rdBin_mul, rdBin_lss, rdBin_leq, rdBin_gtr, rdBin_geq, rdBin_eql, rdBin_neq, rdBin_seql, rdBin_sneq, unV_not, bvK_bool, bK_true, bK_false, Bool.not_true, Bool.not_false, Bool.not_not, rdNil_ep, rdNil_ptr, oneCell_sl, ldV_sl, vEq_self, List.length_nil, Int.cast_ofNat_Int, Int.reduceEq, Int.reduceLT, Int.reduceLE, decide_true, decide_false, eq_self, Bool.and_self, fa_24_0, fa_24_1, fa_24_2, fa_24_3, fp_24_0, fp_24_1, fp_24_2, fp_24_3, ld_3, ld_5, ld_9, ld_22, ld_24, ld_161, len_9, len_22, lenS_22, lenN_22, len_82, lenS_82, lenN_82]
  refine Wq.call p4 hA fun H1 nx1 hA1 => ?_
  simp only [oneCell_int, oneCell_str, oneCell_bool, oneCell_row, oneCell_ep, oneCell_nilp, cond_true, cond_false, optK_some, ldV_int, ldV_str, ldV_bool, ldV_row, ldV_ep, ldV_nilp, rdBin_add, rdBin_sub, rdBin_mul, rdBin_lss, rdBin_leq, rdBin_gtr, rdBin_geq, rdBin_eql, rdBin_neq, rdBin_seql, rdBin_sneq, unV_not, bvK_bool, bK_true, bK_false, Bool.not_true, Bool.not_false, Bool.not_not, rdNil_ep, rdNil_ptr, oneCell_sl, ldV_sl, vEq_self, List.length_nil, Int.cast_ofNat_Int, Int.reduceEq, Int.reduceLT, Int.reduceLE, decide_true, decide_false, eq_self, Bool.and_self, fa_24_0, fa_24_1, fa_24_2, fa_24_3, fp_24_0, fp_24_1, fp_24_2, fp_24_3, ld_3, ld_5, ld_9, ld_22, ld_24, ld_161, len_9, len_22, lenS_22, lenN_22, len_82, lenS_82, lenN_82, rdLen_str _ und_9, txt_size]
  refine Wq.ite (fun h => L6 _ _ _ hA1 (fun q => by cases q)) (fun h => ?_)
  exact L6 _ _ _ hA1 (fun q => by simp at q; omega)
end
end Go.Proofs.YtcfpakjillacgaaGreatDoor
