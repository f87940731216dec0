/- Both texts of a type are one text: the walks, and the law. -/
import Derived.Test.YtcfpakjillacgaaGreatDoorTD
namespace Go.Proofs.YtcfpakjillacgaaGreatDoor
open Go.Ev Go.RowKit
noncomputable section
set_option maxRecDepth 100000
set_option linter.unusedVariables false
set_option linter.unusedSimpArgs false
def sepT (tup : Bool) : List UInt8 := if tup = true then [32, 42, 32] else [44, 32]
def el (tup one : Bool) (c : Ty) : List UInt8 := if tup = true ∨ one = true then bx true c else tx c
def jn (tup one : Bool) : Bool → List Ty → List UInt8
  | _, [] => []
  | first, c :: r => (if first = true then [] else sepT tup) ++ (el tup one c ++ jn tup one false r)
def fin (tup : Bool) (len : Nat) (name s : List UInt8) : List UInt8 := if tup = true then s else if len = 0 then name else if len = 1 then s ++ (32 :: name) else 40 :: (s ++ ([41, 32] ++ name))
theorem jn_false (tup one : Bool) (l : List Ty) : jn tup one false l = l.flatMap fun c => sepT tup ++ el tup one c := by
  induction l with
  | nil => rfl
  | cons c l ih => rw [jn, ih, List.flatMap_cons]; simp
theorem body_jn (n : Int) (name : List UInt8) (l : List Ty) (h : ¬ (n = 5 ∧ l.length = 2)) : body n name (l.map fun c => (c, tx c)) = fin (decide (n = 6 ∧ 2 ≤ l.length)) l.length name (jn (decide (n = 6 ∧ 2 ≤ l.length)) (decide (l.length = 1)) true l) := by
  match l, h with
  | [], _ => simp [body, fin]
  | [a], _ => simp [body, fin, jn, el, bx]
  | a :: b :: r, h =>
    have e1 : ((b :: r).map fun c => (c, tx c)).flatMap (fun x => [32, 42, 32] ++ wr true x.1 x.2) = (b :: r).flatMap fun x => [32, 42, 32] ++ bx true x := by rw [List.flatMap_map]; rfl
    have e2 : ((b :: r).map fun c => (c, tx c)).flatMap (fun x => [44, 32] ++ x.2) = (b :: r).flatMap fun x => [44, 32] ++ tx x := by rw [List.flatMap_map]
    simp only [List.map_cons] at e1 e2
    have h5 : ¬ (n = 5 ∧ (r.map fun c => (c, tx c)).isEmpty = true) := fun q => h ⟨q.1, by
      have := q.2
      rw [List.isEmpty_iff, List.map_eq_nil_iff] at this
      rw [this]; rfl⟩
    simp only [List.map_cons, body]
    rw [if_neg h5, e1, e2, jn, jn_false]
    have hl1 : decide ((a :: b :: r).length = 1) = false := by simp
    have hl0 : ¬ (a :: b :: r).length = 0 := by simp
    have hl2 : ¬ (a :: b :: r).length = 1 := by simp
    by_cases h6 : n = 6
    · have hd : decide (n = 6 ∧ 2 ≤ (a :: b :: r).length) = true := by simp [h6]
      rw [hd, hl1, if_pos h6]
      simp [fin, el, sepT, bx]
    · have hd : decide (n = 6 ∧ 2 ≤ (a :: b :: r).length) = false := by simp [h6]
      rw [hd, hl1, if_neg h6]
      simp [fin, el, sepT]
theorem w_18 (t : Ty) (how : Bool) (h7 : Pu 7 [t.v] (txt (tx t))) (hlen : (tx t).length ≤ 1000000) : Pu 18 [t.v, .bool how] (txt (bx how t)) := Pure.of rfl fun H nx => by
  rw [q18]
  refine Wq.natF' (.refl _ _) fun hA => ?_
  have L12 : ∀ (b : Bool) H1 nx1, Ag nx H nx1 H1 → (b = true ↔ (isArr t ∨ (isTup t ∧ how = true))) → Wq P pl X (.jump (l18_12 (txt (tx t)) b H1 nx1)) nx H (txt (bx how t)) := by
    intro b H1 nx1 hA1 hb
    refine Wq.jmp (q18_12 ..) (fun _ => rfl) ?_
    unfold bx wr
    refine Wq.bK (fun h => ?_) (fun h => ?_)
    · rw [if_pos (hb.1 h), rdAdd_txt 9 true [40] (tx t) (by simp; omega), optK_some, rdAdd_txt 9 true _ [41] (by simp; omega), optK_some]
      exact Wq.ret hA1
    · rw [if_neg (fun q => by rw [hb.2 q] at h; cases h)]
      exact Wq.ret hA1
  have L10 : ∀ (a b : Bool) H1 nx1, Ag nx H nx1 H1 → (a = true ↔ isArr t) → (b = true ↔ isTup t) → Wq P pl X (.jump (l18_10 how (txt (tx t)) a b H1 nx1)) nx H (txt (bx how t)) := by
    intro a b H1 nx1 hA1 ha hb
    refine Wq.jmp (q18_10 ..) (fun _ => rfl) ?_
    refine Wq.bK (fun h => L12 _ _ _ hA1 (by simp [ha.1 h])) (fun h => ?_)
    have na : ¬ isArr t := fun q => by rw [ha.2 q] at h; cases h
    refine Wq.bK (fun h => L12 _ _ _ hA1 (by simp [na, hb.1 h])) (fun h => ?_)
    have nb : ¬ isTup t := fun q => by rw [hb.2 q] at h; cases h
    exact L12 _ _ _ hA1 (by simp [na, nb])
  have L8 : ∀ (a : Bool) H1 nx1, Ag nx H nx1 H1 → (a = true ↔ isArr t) → Wq P pl X (.jump (l18_8 how (eptrV t.v) (txt (tx t)) a H1 nx1)) nx H (txt (bx how t)) := by
    intro a H1 nx1 hA1 ha
    refine Wq.jmp (q18_8 ..) (fun _ => rfl) ?_
    simp only [oneCell_int, oneCell_str, oneCell_bool, oneCell_row, oneCell_ep, oneCell_nilp, cond_true, cond_false, optK_some, ldV_int, ldV_str, ldV_bool, ldV_row, ldV_ep, ldV_nilp, rdBin_add, rdBin_sub, rdBin_mul, rdBin_lss, rdBin_leq, rdBin_gtr, rdBin_geq, rdBin_eql, rdBin_neq, rdBin_seql, rdBin_sneq, unV_not, bvK_bool, bK_true, bK_false, Bool.not_true, Bool.not_false, Bool.not_not, rdNil_ep, rdNil_ptr, oneCell_sl, ldV_sl, vEq_self, List.length_nil, Int.cast_ofNat_Int, Int.reduceEq, Int.reduceLT, Int.reduceLE, decide_true, decide_false, eq_self, Bool.and_self, fa_24_0, fa_24_1, fa_24_2, fa_24_3, fp_24_0, fp_24_1, fp_24_2, fp_24_3, ld_3, ld_5, ld_9, ld_22, ld_24, ld_161, len_9, len_22, lenS_22, lenN_22, len_82, lenS_82, lenN_82, t.v_eq, List.length_map]
    refine Wq.ite (fun hk => ?_) (fun hk => L10 _ _ _ _ hA1 ha (by unfold isTup; simp [hk]))
    refine Wq.ite (fun hn => ?_) (fun hn => L10 _ _ _ _ hA1 ha (by unfold isTup; simp [hn]))
    exact L10 _ _ _ _ hA1 ha (by unfold isTup; rw [decide_eq_true_eq]; omega)
  rw [t.v_eq] at L8 h7 ⊢
  simp only [oneCell_int, oneCell_str, oneCell_bool, oneCell_row, oneCell_ep, oneCell_nilp, cond_true, cond_false, optK_some, ldV_int, ldV_str, ldV_bool, ldV_row, ldV_ep, ldV_nilp, rdBin_add, rdBin_sub, rdBin_mul, rdBin_lss, rdBin_leq, rdBin_gtr, rdBin_geq, rdBin_eql, rdBin_neq, rdBin_seql, rdBin_sneq, unV_not, bvK_bool, bK_true, bK_false, Bool.not_true, Bool.not_false, Bool.not_not, rdNil_ep, rdNil_ptr, oneCell_sl, ldV_sl, vEq_self, List.length_nil, Int.cast_ofNat_Int, Int.reduceEq, Int.reduceLT, Int.reduceLE, decide_true, decide_false, eq_self, Bool.and_self, fa_24_0, fa_24_1, fa_24_2, fa_24_3, fp_24_0, fp_24_1, fp_24_2, fp_24_3, ld_3, ld_5, ld_9, ld_22, ld_24, ld_161, len_9, len_22, lenS_22, lenN_22, len_82, lenS_82, lenN_82]
  refine Wq.call h7 hA fun H1 nx1 hA1 => ?_
  simp only [oneCell_int, oneCell_str, oneCell_bool, oneCell_row, oneCell_ep, oneCell_nilp, cond_true, cond_false, optK_some, ldV_int, ldV_str, ldV_bool, ldV_row, ldV_ep, ldV_nilp, rdBin_add, rdBin_sub, rdBin_mul, rdBin_lss, rdBin_leq, rdBin_gtr, rdBin_geq, rdBin_eql, rdBin_neq, rdBin_seql, rdBin_sneq, unV_not, bvK_bool, bK_true, bK_false, Bool.not_true, Bool.not_false, Bool.not_not, rdNil_ep, rdNil_ptr, oneCell_sl, ldV_sl, vEq_self, List.length_nil, Int.cast_ofNat_Int, Int.reduceEq, Int.reduceLT, Int.reduceLE, decide_true, decide_false, eq_self, Bool.and_self, fa_24_0, fa_24_1, fa_24_2, fa_24_3, fp_24_0, fp_24_1, fp_24_2, fp_24_3, ld_3, ld_5, ld_9, ld_22, ld_24, ld_161, len_9, len_22, lenS_22, lenN_22, len_82, lenS_82, lenN_82, List.length_map]
  refine Wq.ite (fun hk => ?_) (fun hk => L8 _ _ _ hA1 (by unfold isArr; simp [hk]))
  refine Wq.ite (fun hn => ?_) (fun hn => L8 _ _ _ hA1 (by unfold isArr; simp [hn]))
  exact L8 _ _ _ hA1 (by unfold isArr; rw [decide_eq_true_eq]; omega)
theorem bx_length (how : Bool) (t : Ty) : (tx t).length ≤ (bx how t).length := by unfold bx wr; split <;> simp; omega
/-- The document's text. -/
def okR (t : Ty) : Prop := tOk t → (tx t).length ≤ 1000000 → Pu 7 [t.v] (txt (tx t))
theorem w_7_29 {nx0 : Nat} {H0 : T OB} (t : Ty) (hp : ∀ c, c ∈ t.l → okR c) (hs : tOk t) (tup : Bool) (htup : tup = decide (t.n = 6 ∧ 2 ≤ t.l.length)) : ∀ (r : List Ty) (i : Nat) (s : List UInt8) (H : T OB) (nx : Nat), t.l.drop i = r → i ≤ t.l.length →
    s.length + (jn tup (decide (t.l.length = 1)) (decide (i = 0)) r).length + (if tup = true then 0 else t.name.length) ≤ 1000000 → Ag nx0 H0 nx H →
    Wq P pl X (.jump (l7_29 (eptrV t.v) (txt s) tup (i64 (i : Int)) H nx)) nx0 H0 (txt (fin tup t.l.length t.name (s ++ jn tup (decide (t.l.length = 1)) (decide (i = 0)) r))) := by
  rw [tOk_iff] at hs
  intro r
  induction r with
  | nil =>
    intro i s H nx hd hi hlen hA
    have hil := drop_nil hd hi
    rw [jn] at hlen ⊢
    simp only [List.length_nil, List.append_nil] at hlen ⊢
    refine Wq.jmp (q7_29 ..) (fun _ => rfl) ?_
    simp only [oneCell_int, oneCell_str, oneCell_bool, oneCell_row, oneCell_ep, oneCell_nilp, cond_true, cond_false, optK_some, ldV_int, ldV_str, ldV_bool, ldV_row, ldV_ep, ldV_nilp, rdBin_add, rdBin_sub, rdBin_mul, rdBin_lss, rdBin_leq, rdBin_gtr, rdBin_geq, rdBin_eql, rdBin_neq, rdBin_seql, rdBin_sneq, unV_not, bvK_bool, bK_true, bK_false, Bool.not_true, Bool.not_false, Bool.not_not, rdNil_ep, rdNil_ptr, oneCell_sl, ldV_sl, vEq_self, List.length_nil, Int.cast_ofNat_Int, Int.reduceEq, Int.reduceLT, Int.reduceLE, decide_true, decide_false, eq_self, Bool.and_self, fa_24_0, fa_24_1, fa_24_2, fa_24_3, fp_24_0, fp_24_1, fp_24_2, fp_24_3, ld_3, ld_5, ld_9, ld_22, ld_24, ld_161, len_9, len_22, lenS_22, lenN_22, len_82, lenS_82, lenN_82, t.v_eq, List.length_map, hil, not_lt_len]
    unfold fin
    refine Wq.bK (fun h => ?_) (fun h => ?_)
    · rw [if_pos h]; exact Wq.ret hA
    rw [if_neg (by rw [h]; decide)]
    rw [h] at hlen
    simp only [Bool.false_eq_true, if_false] at hlen
    refine Wq.ite (fun h0 => ?_) (fun h0 => ?_)
    · rw [if_pos (by omega)]; exact Wq.ret hA
    rw [if_neg (by omega)]
    refine Wq.ite (fun h1 => ?_) (fun h1 => ?_)
    · rw [if_pos (by omega), rdAdd_txt 9 true s [32] (by simp; omega), optK_some, rdAdd_txt 9 false _ t.name (by simp; omega), optK_some]
      exact Wq.retE (by simp) hA
    · rw [if_neg (by omega), rdAdd_txt 9 true [40] s (by simp; omega), optK_some, rdAdd_txt 9 true _ [41, 32] (by simp; omega)]
      simp only [oneCell_int, oneCell_str, oneCell_bool, oneCell_row, oneCell_ep, oneCell_nilp, cond_true, cond_false, optK_some, ldV_int, ldV_str, ldV_bool, ldV_row, ldV_ep, ldV_nilp, rdBin_add, rdBin_sub, rdBin_mul, rdBin_lss, rdBin_leq, rdBin_gtr, rdBin_geq, rdBin_eql, rdBin_neq, rdBin_seql, rdBin_sneq, unV_not, bvK_bool, bK_true, bK_false, Bool.not_true, Bool.not_false, Bool.not_not, rdNil_ep, rdNil_ptr, oneCell_sl, ldV_sl, vEq_self, List.length_nil, Int.cast_ofNat_Int, Int.reduceEq, Int.reduceLT, Int.reduceLE, decide_true, decide_false, eq_self, Bool.and_self, fa_24_0, fa_24_1, fa_24_2, fa_24_3, fp_24_0, fp_24_1, fp_24_2, fp_24_3, ld_3, ld_5, ld_9, ld_22, ld_24, ld_161, len_9, len_22, lenS_22, lenN_22, len_82, lenS_82, lenN_82]
      rw [rdAdd_txt 9 false _ t.name (by simp; omega), optK_some]
      exact Wq.retE (by simp) hA
  | cons c r ih =>
    intro i s H nx hd hi hlen hA
    obtain ⟨hg, hlt, hd'⟩ := drop_cons hd
    have hc : c ∈ t.l := List.mem_of_getElem? hg
    have hg' : (t.l.map Ty.v)[i]? = some c.v := by simp [hg]
    have hl := hs.2.2.1
    rw [jn] at hlen ⊢
    simp only [List.length_append] at hlen
    have hd0 : decide (i + 1 = 0) = false := by simp
    have hel : (tx c).length ≤ (el tup (decide (t.l.length = 1)) c).length := by
      unfold el; split
      · exact bx_length true c
      · exact Nat.le_refl _
    have hq := hp c hc (hs.2.2.2 c hc) (by omega)
    have L42 : ∀ (b : Bool) (s1 : List UInt8), (b = true ↔ (tup = true ∨ decide (t.l.length = 1) = true)) → s1 = s ++ (if decide (i = 0) = true then [] else sepT tup) → ∀ H1 nx1, Ag nx0 H0 nx1 H1 → Wq P pl X (.jump (l7_42 (eptrV t.v) (txt s1) tup (i64 (i : Int)) b H1 nx1)) nx0 H0
        (txt (fin tup t.l.length t.name (s ++ ((if decide (i = 0) = true then [] else sepT tup) ++ (el tup (decide (t.l.length = 1)) c ++ jn tup (decide (t.l.length = 1)) false r))))) := by
      intro b s1 hb hs1 H1 nx1 hA1
      have hs1l : s1.length = s.length + (if decide (i = 0) = true then [] else sepT tup).length := by rw [hs1, List.length_append]
      have fin1 : ∀ (e : List UInt8) H2 nx2, e = el tup (decide (t.l.length = 1)) c → Ag nx0 H0 nx2 H2 → Wq P pl X (.jump (l7_29 (eptrV t.v) (txt (s1 ++ e)) tup (i64 ((i + 1 : Nat) : Int)) H2 nx2)) nx0 H0
          (txt (fin tup t.l.length t.name (s ++ ((if decide (i = 0) = true then [] else sepT tup) ++ (el tup (decide (t.l.length = 1)) c ++ jn tup (decide (t.l.length = 1)) false r))))) := by
        intro e H2 nx2 he hA2
        subst he
        have := ih (i + 1) (s1 ++ el tup (decide (t.l.length = 1)) c) H2 nx2 hd' (by omega) (by rw [hd0, List.length_append]; omega) hA2
        rw [hd0, hs1] at this
        rw [hs1]
        simpa [List.append_assoc] using this
      refine Wq.jmp (q7_42 ..) (fun _ => rfl) ?_
      rw [t.v_eq] at fin1 ⊢
      refine Wq.bK (fun h => ?_) (fun h => ?_)
      · have he : el tup (decide (t.l.length = 1)) c = bx true c := by unfold el; rw [if_pos (hb.1 h)]
        have h18 := w_18 c true hq (by omega)
        have hbl : (bx true c).length ≤ 1000000 := by rw [← he]; omega
        rw [c.v_eq] at hg' h18
        simp only [oneCell_int, oneCell_str, oneCell_bool, oneCell_row, oneCell_ep, oneCell_nilp, cond_true, cond_false, optK_some, ldV_int, ldV_str, ldV_bool, ldV_row, ldV_ep, ldV_nilp, rdBin_add, rdBin_sub, rdBin_mul, rdBin_lss, rdBin_leq, rdBin_gtr, rdBin_geq, rdBin_eql, rdBin_neq, rdBin_seql, rdBin_sneq, unV_not, bvK_bool, bK_true, bK_false, Bool.not_true, Bool.not_false, Bool.not_not, rdNil_ep, rdNil_ptr, oneCell_sl, ldV_sl, vEq_self, List.length_nil, Int.cast_ofNat_Int, Int.reduceEq, Int.reduceLT, Int.reduceLE, decide_true, decide_false, eq_self, Bool.and_self, fa_24_0, fa_24_1, fa_24_2, fa_24_3, fp_24_0, fp_24_1, fp_24_2, fp_24_3, ld_3, ld_5, ld_9, ld_22, ld_24, ld_161, len_9, len_22, lenS_22, lenN_22, len_82, lenS_82, lenN_82, ix_22 hg', wrap_succ (show i < 9223372036854775807 by omega)]
        refine Wq.call h18 hA1 fun H2 nx2 hA2 => ?_
        rw [rdAdd_txt 9 false s1 _ (by omega), optK_some]
        exact fin1 _ _ _ he.symm hA2
      · have he : el tup (decide (t.l.length = 1)) c = tx c := by unfold el; rw [if_neg (fun q => by rw [hb.2 q] at h; cases h)]
        rw [c.v_eq] at hg' hq
        simp only [oneCell_int, oneCell_str, oneCell_bool, oneCell_row, oneCell_ep, oneCell_nilp, cond_true, cond_false, optK_some, ldV_int, ldV_str, ldV_bool, ldV_row, ldV_ep, ldV_nilp, rdBin_add, rdBin_sub, rdBin_mul, rdBin_lss, rdBin_leq, rdBin_gtr, rdBin_geq, rdBin_eql, rdBin_neq, rdBin_seql, rdBin_sneq, unV_not, bvK_bool, bK_true, bK_false, Bool.not_true, Bool.not_false, Bool.not_not, rdNil_ep, rdNil_ptr, oneCell_sl, ldV_sl, vEq_self, List.length_nil, Int.cast_ofNat_Int, Int.reduceEq, Int.reduceLT, Int.reduceLE, decide_true, decide_false, eq_self, Bool.and_self, fa_24_0, fa_24_1, fa_24_2, fa_24_3, fp_24_0, fp_24_1, fp_24_2, fp_24_3, ld_3, ld_5, ld_9, ld_22, ld_24, ld_161, len_9, len_22, lenS_22, lenN_22, len_82, lenS_82, lenN_82, ix_22 hg', wrap_succ (show i < 9223372036854775807 by omega)]
        refine Wq.call hq hA1 fun H2 nx2 hA2 => ?_
        rw [rdAdd_txt 9 false s1 _ (by omega), optK_some]
        exact fin1 _ _ _ he.symm hA2
    have L34 : ∀ (b : Bool), (b = true ↔ (0 < i ∧ tup = true)) → Wq P pl X (.jump (l7_34 (eptrV t.v) (txt s) tup (i64 (i : Int)) b H nx)) nx0 H0
        (txt (fin tup t.l.length t.name (s ++ ((if decide (i = 0) = true then [] else sepT tup) ++ (el tup (decide (t.l.length = 1)) c ++ jn tup (decide (t.l.length = 1)) false r))))) := by
      intro b hb
      have hgt : decide (0 < (i : Int)) = decide (0 < i) := by simp
      have hone : decide ((t.l.length : Int) = 1) = decide (t.l.length = 1) := by rw [decide_eq_decide]; omega
      refine Wq.jmp (q7_34 ..) (fun _ => rfl) ?_
      rw [t.v_eq] at L42 ⊢
      refine Wq.bK (fun h => ?_) (fun h => ?_)
      · obtain ⟨hi0, ht⟩ := hb.1 h
        have hz : decide (i = 0) = false := by simp; omega
        have hsp : sepT tup = [32, 42, 32] := by unfold sepT; rw [if_pos ht]
        rw [rdAdd_txt 9 true s _ (by simp; omega), optK_some]
        rw [ht] at L42 ⊢
        simp only [oneCell_int, oneCell_str, oneCell_bool, oneCell_row, oneCell_ep, oneCell_nilp, cond_true, cond_false, optK_some, ldV_int, ldV_str, ldV_bool, ldV_row, ldV_ep, ldV_nilp, rdBin_add, rdBin_sub, rdBin_mul, rdBin_lss, rdBin_leq, rdBin_gtr, rdBin_geq, rdBin_eql, rdBin_neq, rdBin_seql, rdBin_sneq, unV_not, bvK_bool, bK_true, bK_false, Bool.not_true, Bool.not_false, Bool.not_not, rdNil_ep, rdNil_ptr, oneCell_sl, ldV_sl, vEq_self, List.length_nil, Int.cast_ofNat_Int, Int.reduceEq, Int.reduceLT, Int.reduceLE, decide_true, decide_false, eq_self, Bool.and_self, fa_24_0, fa_24_1, fa_24_2, fa_24_3, fp_24_0, fp_24_1, fp_24_2, fp_24_3, ld_3, ld_5, ld_9, ld_22, ld_24, ld_161, len_9, len_22, lenS_22, lenN_22, len_82, lenS_82, lenN_82]
        refine L42 true _ (by simp) ?_ _ _ hA
        rw [hz]; simp [sepT]
      · simp only [oneCell_int, oneCell_str, oneCell_bool, oneCell_row, oneCell_ep, oneCell_nilp, cond_true, cond_false, optK_some, ldV_int, ldV_str, ldV_bool, ldV_row, ldV_ep, ldV_nilp, rdBin_add, rdBin_sub, rdBin_mul, rdBin_lss, rdBin_leq, rdBin_gtr, rdBin_geq, rdBin_eql, rdBin_neq, rdBin_seql, rdBin_sneq, unV_not, bvK_bool, bK_true, bK_false, Bool.not_true, Bool.not_false, Bool.not_not, rdNil_ep, rdNil_ptr, oneCell_sl, ldV_sl, vEq_self, List.length_nil, Int.cast_ofNat_Int, Int.reduceEq, Int.reduceLT, Int.reduceLE, decide_true, decide_false, eq_self, Bool.and_self, fa_24_0, fa_24_1, fa_24_2, fa_24_3, fp_24_0, fp_24_1, fp_24_2, fp_24_3, ld_3, ld_5, ld_9, ld_22, ld_24, ld_161, len_9, len_22, lenS_22, lenN_22, len_82, lenS_82, lenN_82, List.length_map]
        refine Wq.ite (fun hi0 => ?_) (fun hi0 => ?_)
        · have hi0' : 0 < i := by omega
          have ht : tup = false := by
            cases htp : tup with
            | false => rfl
            | true => rw [hb.2 ⟨hi0', htp⟩] at h; cases h
          have hz : decide (i = 0) = false := by simp; omega
          rw [rdAdd_txt 9 true s _ (by simp; omega), optK_some]
          rw [ht] at L42 ⊢
          simp only [oneCell_int, oneCell_str, oneCell_bool, oneCell_row, oneCell_ep, oneCell_nilp, cond_true, cond_false, optK_some, ldV_int, ldV_str, ldV_bool, ldV_row, ldV_ep, ldV_nilp, rdBin_add, rdBin_sub, rdBin_mul, rdBin_lss, rdBin_leq, rdBin_gtr, rdBin_geq, rdBin_eql, rdBin_neq, rdBin_seql, rdBin_sneq, unV_not, bvK_bool, bK_true, bK_false, Bool.not_true, Bool.not_false, Bool.not_not, rdNil_ep, rdNil_ptr, oneCell_sl, ldV_sl, vEq_self, List.length_nil, Int.cast_ofNat_Int, Int.reduceEq, Int.reduceLT, Int.reduceLE, decide_true, decide_false, eq_self, Bool.and_self, fa_24_0, fa_24_1, fa_24_2, fa_24_3, fp_24_0, fp_24_1, fp_24_2, fp_24_3, ld_3, ld_5, ld_9, ld_22, ld_24, ld_161, len_9, len_22, lenS_22, lenN_22, len_82, lenS_82, lenN_82, List.length_map, hone]
          refine L42 _ _ (by simp) ?_ _ _ hA
          rw [hz]; simp [sepT]
        · have hz : decide (i = 0) = true := by simp; omega
          cases htp : tup with
          | true =>
            rw [htp] at L42
            simp only [oneCell_int, oneCell_str, oneCell_bool, oneCell_row, oneCell_ep, oneCell_nilp, cond_true, cond_false, optK_some, ldV_int, ldV_str, ldV_bool, ldV_row, ldV_ep, ldV_nilp, rdBin_add, rdBin_sub, rdBin_mul, rdBin_lss, rdBin_leq, rdBin_gtr, rdBin_geq, rdBin_eql, rdBin_neq, rdBin_seql, rdBin_sneq, unV_not, bvK_bool, bK_true, bK_false, Bool.not_true, Bool.not_false, Bool.not_not, rdNil_ep, rdNil_ptr, oneCell_sl, ldV_sl, vEq_self, List.length_nil, Int.cast_ofNat_Int, Int.reduceEq, Int.reduceLT, Int.reduceLE, decide_true, decide_false, eq_self, Bool.and_self, fa_24_0, fa_24_1, fa_24_2, fa_24_3, fp_24_0, fp_24_1, fp_24_2, fp_24_3, ld_3, ld_5, ld_9, ld_22, ld_24, ld_161, len_9, len_22, lenS_22, lenN_22, len_82, lenS_82, lenN_82]
            exact L42 true _ (by simp) (by rw [hz]; simp) _ _ hA
          | false =>
            rw [htp] at L42
            simp only [oneCell_int, oneCell_str, oneCell_bool, oneCell_row, oneCell_ep, oneCell_nilp, cond_true, cond_false, optK_some, ldV_int, ldV_str, ldV_bool, ldV_row, ldV_ep, ldV_nilp, rdBin_add, rdBin_sub, rdBin_mul, rdBin_lss, rdBin_leq, rdBin_gtr, rdBin_geq, rdBin_eql, rdBin_neq, rdBin_seql, rdBin_sneq, unV_not, bvK_bool, bK_true, bK_false, Bool.not_true, Bool.not_false, Bool.not_not, rdNil_ep, rdNil_ptr, oneCell_sl, ldV_sl, vEq_self, List.length_nil, Int.cast_ofNat_Int, Int.reduceEq, Int.reduceLT, Int.reduceLE, decide_true, decide_false, eq_self, Bool.and_self, fa_24_0, fa_24_1, fa_24_2, fa_24_3, fp_24_0, fp_24_1, fp_24_2, fp_24_3, ld_3, ld_5, ld_9, ld_22, ld_24, ld_161, len_9, len_22, lenS_22, lenN_22, len_82, lenS_82, lenN_82, List.length_map, hone]
            exact L42 _ _ (by simp) (by rw [hz]; simp) _ _ hA
    refine Wq.jmp (q7_29 ..) (fun _ => rfl) ?_
    rw [t.v_eq] at L34 ⊢
    simp only [oneCell_int, oneCell_str, oneCell_bool, oneCell_row, oneCell_ep, oneCell_nilp, cond_true, cond_false, optK_some, ldV_int, ldV_str, ldV_bool, ldV_row, ldV_ep, ldV_nilp, rdBin_add, rdBin_sub, rdBin_mul, rdBin_lss, rdBin_leq, rdBin_gtr, rdBin_geq, rdBin_eql, rdBin_neq, rdBin_seql, rdBin_sneq, unV_not, bvK_bool, bK_true, bK_false, Bool.not_true, Bool.not_false, Bool.not_not, rdNil_ep, rdNil_ptr, oneCell_sl, ldV_sl, vEq_self, List.length_nil, Int.cast_ofNat_Int, Int.reduceEq, Int.reduceLT, Int.reduceLE, decide_true, decide_false, eq_self, Bool.and_self, fa_24_0, fa_24_1, fa_24_2, fa_24_3, fp_24_0, fp_24_1, fp_24_2, fp_24_3, ld_3, ld_5, ld_9, ld_22, ld_24, ld_161, len_9, len_22, lenS_22, lenN_22, len_82, lenS_82, lenN_82, List.length_map, is_lt_len hlt]
    refine Wq.ite (fun hi0 => L34 _ (by simp; omega)) (fun hi0 => L34 _ (by simp; omega))
end
end Go.Proofs.YtcfpakjillacgaaGreatDoor
