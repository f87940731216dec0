-- Printed by kprint.py, lay.py, programs of this claim's author over the kit's printer.
import Derived.Test.YtnihjlnnllngeaaDoorF0
import Derived.Test.YtnihjlnnllngeaaDoorFPrint
import Derived.Test.YtnihjlnnllngeaaDoorFKnown
import Derived.Test.YtnihjlnnllngeaaDoorFRSame
import Derived.Test.YtnihjlnnllngeaaDoorFRPrint
namespace Go.Proofs.YtnihjlnnllngeaaDoor.PL
open Go.RowKit Go.Proofs.YtnihjlnnllngeaaDoorW.PrintWords Go.Proofs.YtnihjlnnllngeaaDoorW.PrintLast Go.Proofs.YtnihjlnnllngeaaDoorW.PrintMore
attribute [local go_sem] max2_int min2_int max_two min_two max_three min_three max_four min_four   -- for this text's walks alone
set_option linter.unusedVariables false
set_option linter.unusedSimpArgs false

/-! ### kindlinglaw07_LexPrints: function 6 -/
mutual
def kindlinglaw07_LexPrints.l0 : Nat → List (S32) → Int → Int → Option (Bool)
 | 0, _, _, _ => none
 | k + 1, x0, x3, x4 => if x4 < (x0.length : Int) then (kindlinglaw07_LexPrints.j1 k x0 x3 x4 (decide (x3 ≤ 3000))) else (kindlinglaw07_LexPrints.j1 k x0 x3 x4 false)
def kindlinglaw07_LexPrints.j1 : Nat → List (S32) → Int → Int → Bool → Option (Bool)
 | 0, _, _, _, _ => none
 | k + 1, x0, x3, x4, x17 => if x17 = true then (if 0 ≤ x4 then (if x4 < (x0.length : Int) then (kindlinglaw07_LexPrints.l0 k x0 (wrap64 ((wrap64 (x3 + 1)) + (((rd_T32 x0 x4).f1).size : Int))) (wrap64 (x4 + 1))) else (none)) else (none)) else (if x3 > 3000 then ((kindlinglaw07_known.f k).bind fun t394 => (some t394)) else (if ([] : List (S32)).length + x0.length < 3518437208883 then ((some (([] : List (S32)) ++ x0 : List (S32))).bind fun y395 => ((lex_Print.f k y395).bind fun bt398 => ((kindlingref07_Print.f k x0).bind fun bt400 => (if bt398.1.toList = bt400.1.toList then (if bt398.2 = bt400.2 then ((kindlingref07_Same.f k y395 x0 true).bind fun t402 => (if t402 = true then ((kindlinglaw07_known.f k).bind fun t403 => (some t403)) else (some false))) else (some false)) else (some false))))) else (none)))
end
def kindlinglaw07_LexPrints.f (k : Nat) (l0 : List (S32)) : Option (Bool) := kindlinglaw07_LexPrints.l0 k l0 0 0
theorem kindlinglaw07_LexPrints.mono_l : ∀ k, (∀ y0 y1 y2, LeO (kindlinglaw07_LexPrints.l0 k y0 y1 y2) (kindlinglaw07_LexPrints.l0 (k + 1) y0 y1 y2)) ∧ (∀ y0 y1 y2 y3, LeO (kindlinglaw07_LexPrints.j1 k y0 y1 y2 y3) (kindlinglaw07_LexPrints.j1 (k + 1) y0 y1 y2 y3))
 | 0 => ⟨fun _ _ _ r h => by simp [kindlinglaw07_LexPrints.l0] at h, fun _ _ _ _ r h => by simp [kindlinglaw07_LexPrints.j1] at h⟩
 | k + 1 => by
  obtain ⟨ih0, ih1⟩ := kindlinglaw07_LexPrints.mono_l k
  refine ⟨?_, ?_⟩
  ·intro y0 y1 y2
   unfold kindlinglaw07_LexPrints.l0
   repeat' first
   | (with_reducible exact ih0 _ _ _)
   | (with_reducible exact ih1 _ _ _ _)
   | (with_reducible exact kindlinglaw07_known.mono _)
   | (with_reducible exact kindlingref07_Print.mono _ _)
   | (with_reducible exact kindlingref07_Same.mono _ _ _ _)
   | (with_reducible exact lex_Print.mono _ _)
   | (with_reducible exact LeO.refl _)
   | (with_reducible exact LeO.none _)
   | (with_reducible refine LeO.ite ?_ ?_)
   | (with_reducible refine LeO.bind ?_ (fun _ => ?_))
   | exact ih0 _ _ _
   | exact ih1 _ _ _ _
   | exact kindlinglaw07_known.mono _
   | exact kindlingref07_Print.mono _ _
   | exact kindlingref07_Same.mono _ _ _ _
   | exact lex_Print.mono _ _
   | exact LeO.none _
   | refine LeO.ite ?_ ?_
   | refine LeO.bind ?_ (fun _ => ?_)
  ·intro y0 y1 y2 y3
   unfold kindlinglaw07_LexPrints.j1
   repeat' first
   | (with_reducible exact ih0 _ _ _)
   | (with_reducible exact ih1 _ _ _ _)
   | (with_reducible exact kindlinglaw07_known.mono _)
   | (with_reducible exact kindlingref07_Print.mono _ _)
   | (with_reducible exact kindlingref07_Same.mono _ _ _ _)
   | (with_reducible exact lex_Print.mono _ _)
   | (with_reducible exact LeO.refl _)
   | (with_reducible exact LeO.none _)
   | (with_reducible refine LeO.ite ?_ ?_)
   | (with_reducible refine LeO.bind ?_ (fun _ => ?_))
   | exact ih0 _ _ _
   | exact ih1 _ _ _ _
   | exact kindlinglaw07_known.mono _
   | exact kindlingref07_Print.mono _ _
   | exact kindlingref07_Same.mono _ _ _ _
   | exact lex_Print.mono _ _
   | exact LeO.none _
   | refine LeO.ite ?_ ?_
   | refine LeO.bind ?_ (fun _ => ?_)
theorem kindlinglaw07_LexPrints.mono : ∀ a0 k, LeO (kindlinglaw07_LexPrints.f k a0) (kindlinglaw07_LexPrints.f (k + 1) a0) := by
 intro a0 k
 obtain ⟨ih0, ih1⟩ := kindlinglaw07_LexPrints.mono_l k
 unfold kindlinglaw07_LexPrints.f
 repeat' first
   | (with_reducible exact ih0 _ _ _)
   | (with_reducible exact ih1 _ _ _ _)
   | (with_reducible exact kindlinglaw07_known.mono _)
   | (with_reducible exact kindlingref07_Print.mono _ _)
   | (with_reducible exact kindlingref07_Same.mono _ _ _ _)
   | (with_reducible exact lex_Print.mono _ _)
   | (with_reducible exact LeO.refl _)
   | (with_reducible exact LeO.none _)
   | (with_reducible refine LeO.ite ?_ ?_)
   | (with_reducible refine LeO.bind ?_ (fun _ => ?_))
   | exact ih0 _ _ _
   | exact ih1 _ _ _ _
   | exact kindlinglaw07_known.mono _
   | exact kindlingref07_Print.mono _ _
   | exact kindlingref07_Same.mono _ _ _ _
   | exact lex_Print.mono _ _
   | exact LeO.none _
   | refine LeO.ite ?_ ?_
   | refine LeO.bind ?_ (fun _ => ?_)
set_option maxHeartbeats 8000000 in
set_option maxRecDepth 100000 in
theorem kindlinglaw07_LexPrints.calls (k : Nat) (A0 : Option Addr) (c0 : Nat) (l0 : List (S32)) (r : Bool) (w : World) (hr0 : Kd.C k32 w A0 l0.length l0) (hc0 : l0.length ≤ c0) (hrG0 : Kd.C Kd.string w AG0 lG0.length lG0) (hrG1 : Kd.C Kd.string w AG1 lG1.length lG1) (hr : r = true) (h : kindlinglaw07_LexPrints.f k l0 = some r) :
  Calls Tryd.prog 6 #[.slice A0 l0.length c0] w fun e w' => e = .returned (.bool r) ∧ Below w.heap.size w w' := by
 have HR0 := Aside0.mk hr0
 have HC0 := Aside0.mk hc0
 clear hr0 hc0
 have HRG0 := Aside0.mk hrG0
 have HCG0 := Aside0.mk (show lG0.length ≤ cG0 by decide)
 clear hrG0
 have HRG1 := Aside0.mk hrG1
 have HCG1 := Aside0.mk (show lG1.length ≤ cG1 by decide)
 clear hrG1
 have HB := Aside0.mk (Below.refl w.heap.size w)
 have H : (kindlinglaw07_LexPrints.l0 k l0 0 0) = some r := h
 clear h
 have H' := Aside0.mk H
 clear H
 go_enter Tryd.func6, Tryd.ntmps6
 go_wp2
 go_loopg [3, 4] k (fun kq v3 v4 w' => ∃ (x3_1 : Int) (x4_1 : Int), v3 = .int .i64 x3_1 ∧ v4 = .int .i64 x4_1 ∧ Aside0 (kindlinglaw07_LexPrints.l0 kq l0 x3_1 x4_1 = some r) ∧ Aside0 (kq ≤ k) ∧ Aside0 (Below w.heap.size w w'))
 case atStart => exact ⟨(0), (0), (by first | rfl | (simp; done) | (simp [*]; done) | (simp [i64_w, u8_w]; done) | (simp; simp only [isEmpty_bne]; done)), (by first | rfl | (simp; done) | (simp [*]; done) | (simp [i64_w, u8_w]; done) | (simp; simp only [isEmpty_bne]; done)), H', ⟨Nat.le_refl _⟩, ⟨by first | exact ai | (with_reducible exact HB.out)⟩⟩
 case round =>
  clear H'
  obtain ⟨x3_1, x4_1, rfl, rfl, HA, HK1, HB⟩ := hrel
  cases gk with
  | zero => exact absurd HA.out (by simp [kindlinglaw07_LexPrints.l0])
  | succ k1 =>
   have H := HA.out
   clear HA
   simp only [kindlinglaw07_LexPrints.l0] at H
   have HC2 := Aside0.mk H
   clear H
   go_upto_region 3 with (fail)
   go_cut [17] (fun v17 wc => ∃ (kq : Nat) (x17_1 : Bool), v17 = .bool x17_1 ∧ Aside0 (kindlinglaw07_LexPrints.j1 kq l0 x3_1 x4_1 x17_1 = some r) ∧ Aside0 (kq ≤ k1) ∧ Aside0 (Below w.heap.size w wc))
   case first =>
    have H := HC2.out
    clear HC2
    by_cases c3 : x4_1 < (l0.length : Int)
    ·rw [if_pos c3] at H
     have c3b0 : decide (x4_1 < (l0.length : Int)) = true := decide_eq_true c3
     clear c3
     (first | rw [c3b0] | rw [c3b1] | (simp only [i64_w, i32_w]; rw [c3b0]) | skip)
     have H' := Aside0.mk H
     clear H
     go_wp2
     go_meet
     case rel => exact ⟨_, (decide (x3_1 ≤ 3000)), (by first | rfl | (simp; done) | (simp [*]; done) | (simp [i64_w, u8_w]; done) | (simp; simp only [isEmpty_bne]; done)), H', ⟨by have := HK1.out; first | omega | exact Nat.le_refl _⟩, ⟨by first | exact ai | (with_reducible exact HB.out)⟩⟩
    ·rw [if_neg c3] at H
     have c3b0 : decide (x4_1 < (l0.length : Int)) = false := decide_eq_false c3
     clear c3
     (first | rw [c3b0] | rw [c3b1] | (simp only [i64_w, i32_w]; rw [c3b0]) | skip)
     have H' := Aside0.mk H
     clear H
     go_wp2
     go_meet
     case rel => exact ⟨_, (false), (by first | rfl | (simp; done) | (simp [*]; done) | (simp [i64_w, u8_w]; done) | (simp; simp only [isEmpty_bne]; done)), H', ⟨by have := HK1.out; first | omega | exact Nat.le_refl _⟩, ⟨by first | exact ai | (with_reducible exact HB.out)⟩⟩
   case rest =>
    clear HC2
    try clear p2
    try clear c3
    try clear c3b0
    obtain ⟨kq, x17_1, rfl, HA, HJ1, HB⟩ := hcut
    cases kq with
    | zero => exact absurd HA.out (by simp [kindlinglaw07_LexPrints.j1])
    | succ kj1 =>
     have H := HA.out
     clear HA
     simp only [kindlinglaw07_LexPrints.j1] at H
     by_cases c4 : x17_1 = true
     ·subst c4
      have H1 : (if 0 ≤ x4_1 then (if x4_1 < (l0.length : Int) then (kindlinglaw07_LexPrints.l0 kj1 l0 (wrap64 ((wrap64 (x3_1 + 1)) + (((rd_T32 l0 x4_1).f1).size : Int))) (wrap64 (x4_1 + 1))) else (none)) else (none)) = some r := by rw [if_pos rfl] at H; exact H
      clear H
      have H := H1
      clear H1
      by_cases c5 : 0 ≤ x4_1
      ·rw [if_pos c5] at H
       have c5b0 : decide (0 ≤ x4_1) = true := decide_eq_true c5
       clear c5
       by_cases c6 : x4_1 < (l0.length : Int)
       ·rw [if_pos c6] at H
        have c6b0 : decide (x4_1 < (l0.length : Int)) = true := decide_eq_true c6
        clear c6
        have H' := Aside0.mk H
        clear H
        have p393 : 0 ≤ (x4_1 : Int) := of_decide_eq_true (by first | (with_reducible assumption) | assumption)
        have q393 : x4_1 < (l0.length : Int) := of_decide_eq_true (by first | (with_reducible assumption) | assumption)
        obtain ⟨ad393, e393, hx393_0, hx393_1, hx393_2, hx393_3⟩ := at_T32 HR0.out x4_1 p393 q393
        cases e393
        replace hx393_0 := (HB.out.cell (World.block_lt_of_cell? w _ hx393_0)).trans hx393_0
        replace hx393_1 := (HB.out.cell (World.block_lt_of_cell? w _ hx393_1)).trans hx393_1
        replace hx393_2 := (HB.out.cell (World.block_lt_of_cell? w _ hx393_2)).trans hx393_2
        replace hx393_3 := (HB.out.cell (World.block_lt_of_cell? w _ hx393_3)).trans hx393_3
        replace p393 := eq_true p393
        replace q393 := eq_true q393
        go_wp2
        go_roundg kj1
        case measure => have := HK1.out; have := HJ1.out; omega
        case rel => exact ⟨(wrap64 ((wrap64 (x3_1 + 1)) + (((rd_T32 l0 x4_1).f1).size : Int))), (wrap64 (x4_1 + 1)), (by first | rfl | (simp; done) | (simp [*]; done) | (simp [i64_w, u8_w]; done) | (simp; simp only [isEmpty_bne]; done)), (by first | rfl | (simp; done) | (simp [*]; done) | (simp [i64_w, u8_w]; done) | (simp; simp only [isEmpty_bne]; done)), H', ⟨by have := HK1.out; have := HJ1.out; omega⟩, ⟨by first | exact ai | (with_reducible exact HB.out)⟩⟩
       ·rw [if_neg c6] at H
        exact absurd H (by simp)
      ·rw [if_neg c5] at H
       exact absurd H (by simp)
     ·replace c4 := Bool.eq_false_iff.mpr c4
      subst c4
      have H1 : (if x3_1 > 3000 then ((kindlinglaw07_known.f kj1).bind fun t394 => (some t394)) else (if ([] : List (S32)).length + l0.length < 3518437208883 then ((some (([] : List (S32)) ++ l0 : List (S32))).bind fun y395 => ((lex_Print.f kj1 y395).bind fun bt398 => ((kindlingref07_Print.f kj1 l0).bind fun bt400 => (if bt398.1.toList = bt400.1.toList then (if bt398.2 = bt400.2 then ((kindlingref07_Same.f kj1 y395 l0 true).bind fun t402 => (if t402 = true then ((kindlinglaw07_known.f kj1).bind fun t403 => (some t403)) else (some false))) else (some false)) else (some false))))) else (none))) = some r := by rw [if_neg (show ¬ (false = true) by decide)] at H; exact H
      clear H
      have H := H1
      clear H1
      by_cases c7 : x3_1 > 3000
      ·rw [if_pos c7] at H
       have c7b0 : decide (3000 < x3_1) = true := decide_eq_true c7
       clear c7
       replace H := Option.bind_eq_some_iff.mp H
       obtain ⟨t394, A80, H⟩ := H
       replace H : (some t394) = some r := H
       have A8 := Aside0.mk A80
       clear A80
       obtain rfl := Option.some.inj H
       go_wp2_with (first | ((with_reducible refine gate_callee (f := 12) rfl ?_); refine goesL_ (some 31) rfl rfl Tryd.func12 (by kernel_rfl) rfl #[] rfl (by (try simp only [List.map_toArray, List.map_cons, List.map_nil]); first | done | rfl | (simp only [List.length_drop, List.length_take]; rfl)) ?_; (with_reducible refine (kindlinglaw07_known.calls kj1  t394 _ ?side1 ?side2 A8.out).mono ?_); (case side1 => exact Kd.C_up <| (Kd.C_below HRG0.out HB.out)); (case side2 => exact Kd.C_up <| (Kd.C_below HRG1.out HB.out)); rintro e w9 ⟨rfl, hb⟩; refine ⟨_, rfl, ?_⟩; have n0_ := Aside0.mk (below_step (by first | exact ai | (with_reducible exact HB.out) : Below w.heap.size w _) hb); clear HB; have HB := n0_; clear n0_; (try clear hb); (try clear hb2); (try clear hk); (try clear hi)))
       go_ret
       exact ⟨by first | rfl | (simp [errW_none, errW_some] <;> rfl) | (simp [*, errW_none, errW_some] <;> rfl), by first | exact ai | (with_reducible exact HB.out)⟩
      ·rw [if_neg c7] at H
       have c7b0 : decide (3000 < x3_1) = false := decide_eq_false c7
       clear c7
       by_cases c10 : ([] : List (S32)).length + l0.length < 3518437208883
       ·rw [if_pos c10] at H
        have LMc10 := Aside0.mk c10
        clear c10
        obtain ⟨y395, hy395⟩ : ∃ y_ : List (S32), y_ = (([] : List (S32)) ++ l0) := ⟨_, rfl⟩
        replace H : ((lex_Print.f kj1 y395).bind fun bt398 => ((kindlingref07_Print.f kj1 l0).bind fun bt400 => (if bt398.1.toList = bt400.1.toList then (if bt398.2 = bt400.2 then ((kindlingref07_Same.f kj1 y395 l0 true).bind fun t402 => (if t402 = true then ((kindlinglaw07_known.f kj1).bind fun t403 => (some t403)) else (some false))) else (some false)) else (some false)))) = some r := by first | (rw [hy395]; with_reducible exact H) | (have H2_ := (Option.bind_some _ _).symm.trans H; rw [hy395]; with_reducible exact H2_) | (have H2_ := (Option.bind_some _ _).symm.trans H; with_reducible exact H2_) | with_reducible exact H | (rw [hy395]; exact H) | exact H
        have Ny395 := Aside0.mk hy395
        clear hy395
        replace H := Option.bind_eq_some_iff.mp H
        obtain ⟨⟨t398, t399⟩, A110, H⟩ := H
        replace H : ((kindlingref07_Print.f kj1 l0).bind fun bt400 => (if t398.toList = bt400.1.toList then (if t399 = bt400.2 then ((kindlingref07_Same.f kj1 y395 l0 true).bind fun t402 => (if t402 = true then ((kindlinglaw07_known.f kj1).bind fun t403 => (some t403)) else (some false))) else (some false)) else (some false))) = some r := H
        have A11 := Aside0.mk A110
        clear A110
        replace H := Option.bind_eq_some_iff.mp H
        obtain ⟨⟨t400, t401⟩, A120, H⟩ := H
        replace H : (if t398.toList = t400.toList then (if t399 = t401 then ((kindlingref07_Same.f kj1 y395 l0 true).bind fun t402 => (if t402 = true then ((kindlinglaw07_known.f kj1).bind fun t403 => (some t403)) else (some false))) else (some false)) else (some false)) = some r := H
        have A12 := Aside0.mk A120
        clear A120
        by_cases c13 : t398.toList = t400.toList
        ·rw [if_pos c13] at H
         have c13b0 : (t398.toList == t400.toList) = true := beq_iff_eq.mpr c13
         have c13b1 : (t398.toList != t400.toList) = false := bne_eq_false_iff_eq.mpr c13
         clear c13
         by_cases c14 : t399 = t401
         ·rw [if_pos c14] at H
          have c14b0 : (t399 == t401) = true := beq_iff_eq.mpr c14
          have c14b1 : (t399 != t401) = false := bne_eq_false_iff_eq.mpr c14
          clear c14
          replace H := Option.bind_eq_some_iff.mp H
          obtain ⟨t402, A150, H⟩ := H
          replace H : (if t402 = true then ((kindlinglaw07_known.f kj1).bind fun t403 => (some t403)) else (some false)) = some r := H
          have A15 := Aside0.mk A150
          clear A150
          by_cases c16 : t402 = true
          ·subst c16
           have H1 : ((kindlinglaw07_known.f kj1).bind fun t403 => (some t403)) = some r := by rw [if_pos rfl] at H; exact H
           clear H
           have H := H1
           clear H1
           replace H := Option.bind_eq_some_iff.mp H
           obtain ⟨t403, A170, H⟩ := H
           replace H : (some t403) = some r := H
           have A17 := Aside0.mk A170
           clear A170
           obtain rfl := Option.some.inj H
           go_wp2_with (first | ((with_reducible refine gate_builtin (b := .append) (xs := #[.tmp 32, .tmp 33]) rfl ?_); at_builtin; refine Kd.R_append_rows k32 (w0 := w) w.heap.size rfl (.tmp 32) (.tmp 33) 24 32 (.agg #[(.int .i64 0), (.string ⟨#[]⟩), (.int .i64 0), (.int .i64 0)]) 40 rfl Tryd.underlying24 info32 rfl (by decide) (by omega) (.slice none 0 0) ([] : List (S32)) l0 _ _ _ (fun _ => True) (fun _ => False) rfl rfl ?aO ?aR (fun _ _ h => h) (fun _ h => h.elim) ?aF ?aB ?aS ?aL ?_; (case aR => exact Kd.C_up <| (Kd.C_below HR0.out HB.out)); (case aB => exact (by first | exact ai | (with_reducible exact HB.out))); (case aF => exact (fun _ _ => trivial)); (case aO => exact ((Kd.R_nil _ _ _ _ (fun _ => True)))); (case aS => exact (below_size (by first | exact ai | (with_reducible exact HB.out) : Below w.heap.size w _))); (case aL => have := LMc10.out; omega); intro v396 w18 ho hb hg hat; rw [← Ny395.out] at ho; have n0_ := Aside0.mk (hb); have n1_ := Aside0.mk (ho); clear HB; have HB := n0_; have HO397 := n1_; clear n0_ n1_; clear ho hb hg hat; obtain ⟨Ao19, co19, eo19⟩ := Kd.R_slice HO397.out; subst eo19) | ((with_reducible refine gate_callee (f := 20) rfl ?_); refine goesL_ (some 37) rfl rfl Tryd.func20 (by kernel_rfl) rfl #[.slice Ao19 y395.length co19] rfl (by (try simp only [List.map_toArray, List.map_cons, List.map_nil]); first | done | rfl | (simp only [List.length_drop, List.length_take]; rfl)) ?_; (with_reducible refine (lex_Print.calls kj1 _ _ y395 t398 t399 _ ?side1 ?side2 ?side3 ?side4 A11.out).mono ?_); (case side1 => exact Kd.C_up <| (Kd.R_reads' HO397.out).2.2); (case side2 => exact (Kd.R_reads' HO397.out).2.1); (case side3 => exact Kd.C_up <| (Kd.C_below HRG0.out HB.out)); (case side4 => exact Kd.C_up <| (Kd.C_below HRG1.out HB.out)); rintro e w20 ⟨rfl, hb⟩; refine ⟨_, rfl, ?_⟩; have n0_ := Aside0.mk (Kd.R_below (by exact Kd.R_up <| HO397.out) hb); have n1_ := Aside0.mk (below_step (by first | exact ai | (with_reducible exact HB.out) : Below w.heap.size w _) hb); clear HO397; clear HB; have HO397 := n0_; have HB := n1_; clear n0_ n1_; (try clear hb); (try clear hb2); (try clear hk); (try clear hi)) | ((with_reducible refine gate_callee (f := 21) rfl ?_); refine goesL_ (some 42) rfl rfl Tryd.func21 (by kernel_rfl) rfl #[.slice A0 l0.length c0] rfl (by (try simp only [List.map_toArray, List.map_cons, List.map_nil]); first | done | rfl | (simp only [List.length_drop, List.length_take]; rfl)) ?_; (with_reducible refine (kindlingref07_Print.calls kj1 _ _ l0 t400 t401 _ ?side1 ?side2 A12.out).mono ?_); (case side1 => exact Kd.C_up <| (Kd.C_below HR0.out HB.out)); (case side2 => exact HC0.out); rintro e w21 ⟨rfl, hb⟩; refine ⟨_, rfl, ?_⟩; have n0_ := Aside0.mk (Kd.R_below (by exact Kd.R_up <| HO397.out) hb); have n1_ := Aside0.mk (below_step (by first | exact ai | (with_reducible exact HB.out) : Below w.heap.size w _) hb); clear HO397; clear HB; have HO397 := n0_; have HB := n1_; clear n0_ n1_; (try clear hb); (try clear hb2); (try clear hk); (try clear hi)) | (go_at_call 15; (with_reducible refine (kindlingref07_Same.calls kj1 _ _ y395 _ _ l0 true true _ ?side1 ?side2 ?side3 ?side4 A15.out).mono ?_); (case side1 => exact Kd.C_up <| (Kd.R_reads' HO397.out).2.2); (case side2 => exact (Kd.R_reads' HO397.out).2.1); (case side3 => exact Kd.C_up <| (Kd.C_below HR0.out HB.out)); (case side4 => exact HC0.out); rintro e w22 ⟨rfl, hb⟩; have n0_ := Aside0.mk (Kd.R_below (by exact Kd.R_up <| HO397.out) hb); have n1_ := Aside0.mk (below_step (by first | exact ai | (with_reducible exact HB.out) : Below w.heap.size w _) hb); clear HO397; clear HB; have HO397 := n0_; have HB := n1_; clear n0_ n1_; (try clear hb); (try clear hb2); (try clear hk); (try clear hi)) | (go_at_call 12; (with_reducible refine (kindlinglaw07_known.calls kj1  t403 _ ?side1 ?side2 A17.out).mono ?_); (case side1 => exact Kd.C_up <| (Kd.C_below HRG0.out HB.out)); (case side2 => exact Kd.C_up <| (Kd.C_below HRG1.out HB.out)); rintro e w23 ⟨rfl, hb⟩; have n0_ := Aside0.mk (Kd.R_below (by exact Kd.R_up <| HO397.out) hb); have n1_ := Aside0.mk (below_step (by first | exact ai | (with_reducible exact HB.out) : Below w.heap.size w _) hb); clear HO397; clear HB; have HO397 := n0_; have HB := n1_; clear n0_ n1_; (try clear hb); (try clear hb2); (try clear hk); (try clear hi)))
           go_ret
           exact ⟨by first | rfl | (simp [errW_none, errW_some] <;> rfl) | (simp [*, errW_none, errW_some] <;> rfl), by first | exact ai | (with_reducible exact HB.out)⟩
          ·replace c16 := Bool.eq_false_iff.mpr c16
           subst c16
           have H1 : (some false) = some r := by rw [if_neg (show ¬ (false = true) by decide)] at H; exact H
           exact absurd (H1.trans (congrArg some hr)) (by simp)
         ·rw [if_neg c14] at H
          exact absurd (H.trans (congrArg some hr)) (by simp)
        ·rw [if_neg c13] at H
         exact absurd (H.trans (congrArg some hr)) (by simp)
       ·rw [if_neg c10] at H
        exact absurd H (by simp)


end Go.Proofs.YtnihjlnnllngeaaDoor.PL
