-- Printed by kprint.py, lay.py, programs of this claim's author over the kit's printer.
import Derived.Test.YtnihjlnnllngeaaDoorF0
import Derived.Test.YtnihjlnnllngeaaDoorFScan
import Derived.Test.YtnihjlnnllngeaaDoorFPrint
import Derived.Test.YtnihjlnnllngeaaDoorFKnown
import Derived.Test.YtnihjlnnllngeaaDoorFRSame
import Derived.Test.YtnihjlnnllngeaaDoorFRRight
namespace Go.Proofs.YtnihjlnnllngeaaDoor.PL
open Go.RowKit Go.Proofs.YtnihjlnnllngeaaDoorW.PrintWords Go.Proofs.YtnihjlnnllngeaaDoorW.PrintLast Go.Proofs.YtnihjlnnllngeaaDoorW.PrintMore
attribute [local go_sem] max2_int min2_int max_two min_two max_three min_three max_four min_four   -- for this text's walks alone
set_option linter.unusedVariables false
set_option linter.unusedSimpArgs false

/-! ### kindlinglaw07_LexBack: function 7 -/
mutual
def kindlinglaw07_LexBack.l0 : Nat → List (S32) → List (S32) → Int → Int → Option (Bool)
 | 0, _, _, _, _ => none
 | k + 1, x0, x3, x4, x5 => if x5 < (x0.length : Int) then (kindlinglaw07_LexBack.j1 k x0 x3 x4 x5 (decide (x4 ≤ 1000))) else (kindlinglaw07_LexBack.j1 k x0 x3 x4 x5 false)
def kindlinglaw07_LexBack.j1 : Nat → List (S32) → List (S32) → Int → Int → Bool → Option (Bool)
 | 0, _, _, _, _, _ => none
 | k + 1, x0, x3, x4, x5, x18 => if x18 = true then (if 0 ≤ x5 then (if x5 < (x0.length : Int) then (if (wrap64 ((wrap64 (x4 + 1)) + (((rd_T32 x0 x5).f1).size : Int))) ≤ 1000 then ((kindlingref07_Right.f k ((rd_T32 x0 x5).f0) ((rd_T32 x0 x5).f1) ((rd_T32 x0 x5).f2) ((rd_T32 x0 x5).f3)).bind fun t406 => (if t406 = true then (kindlinglaw07_LexBack.j2 k x0 x3 (wrap64 ((wrap64 (x4 + 1)) + (((rd_T32 x0 x5).f1).size : Int))) x5 (((rd_T32 x0 x5).f0) != 0)) else (kindlinglaw07_LexBack.j2 k x0 x3 (wrap64 ((wrap64 (x4 + 1)) + (((rd_T32 x0 x5).f1).size : Int))) x5 false))) else (kindlinglaw07_LexBack.j2 k x0 x3 (wrap64 ((wrap64 (x4 + 1)) + (((rd_T32 x0 x5).f1).size : Int))) x5 false)) else (none)) else (none)) else ((lex_Print.f k x3).bind fun bt412 => ((lex_Scan.f k bt412.1).bind fun bt414 => (if bt412.2 = 0 then (if (bt412.1.size : Int) > 4096 then (if bt414.2.2 = 3 then ((kindlinglaw07_known.f k).bind fun t419 => (some t419)) else (some false)) else (if bt414.2.2 = 0 then (if x3.length < 3518437208883 then ((kindlingref07_Same.f k bt414.1 (x3 ++ [(⟨0, (⟨#[]⟩ : ByteArray), 0, 0⟩ : S32)]) false).bind fun t423 => (if t423 = true then ((kindlinglaw07_known.f k).bind fun t424 => (some t424)) else (some false))) else (none)) else (some false))) else (some false))))
def kindlinglaw07_LexBack.j2 : Nat → List (S32) → List (S32) → Int → Int → Bool → Option (Bool)
 | 0, _, _, _, _, _ => none
 | k + 1, x0, x3, x4, x5, x46 => if x46 = true then (if 0 ≤ x5 then (if x5 < (x0.length : Int) then (if x3.length < 3518437208883 then (kindlinglaw07_LexBack.l0 k x0 (x3 ++ [(⟨(rd_T32 x0 x5).f0, (rd_T32 x0 x5).f1, (rd_T32 x0 x5).f2, (rd_T32 x0 x5).f3⟩ : S32)]) x4 (wrap64 (x5 + 1))) else (none)) else (none)) else (none)) else (kindlinglaw07_LexBack.l0 k x0 x3 x4 (wrap64 (x5 + 1)))
end
def kindlinglaw07_LexBack.f (k : Nat) (l0 : List (S32)) : Option (Bool) := kindlinglaw07_LexBack.l0 k l0 ([] : List (S32)) 0 0
theorem kindlinglaw07_LexBack.mono_l : ∀ k, (∀ y0 y1 y2 y3, LeO (kindlinglaw07_LexBack.l0 k y0 y1 y2 y3) (kindlinglaw07_LexBack.l0 (k + 1) y0 y1 y2 y3)) ∧ (∀ y0 y1 y2 y3 y4, LeO (kindlinglaw07_LexBack.j1 k y0 y1 y2 y3 y4) (kindlinglaw07_LexBack.j1 (k + 1) y0 y1 y2 y3 y4)) ∧ (∀ y0 y1 y2 y3 y4, LeO (kindlinglaw07_LexBack.j2 k y0 y1 y2 y3 y4) (kindlinglaw07_LexBack.j2 (k + 1) y0 y1 y2 y3 y4))
 | 0 => ⟨fun _ _ _ _ r h => by simp [kindlinglaw07_LexBack.l0] at h, fun _ _ _ _ _ r h => by simp [kindlinglaw07_LexBack.j1] at h, fun _ _ _ _ _ r h => by simp [kindlinglaw07_LexBack.j2] at h⟩
 | k + 1 => by
  obtain ⟨ih0, ih1, ih2⟩ := kindlinglaw07_LexBack.mono_l k
  refine ⟨?_, ?_, ?_⟩
  ·intro y0 y1 y2 y3
   unfold kindlinglaw07_LexBack.l0
   repeat' first
   | (with_reducible exact ih0 _ _ _ _)
   | (with_reducible exact ih1 _ _ _ _ _)
   | (with_reducible exact ih2 _ _ _ _ _)
   | (with_reducible exact kindlinglaw07_known.mono _)
   | (with_reducible exact kindlingref07_Right.mono _ _ _ _ _)
   | (with_reducible exact kindlingref07_Same.mono _ _ _ _)
   | (with_reducible exact lex_Print.mono _ _)
   | (with_reducible exact lex_Scan.mono _ _)
   | (with_reducible exact LeO.refl _)
   | (with_reducible exact LeO.none _)
   | (with_reducible refine LeO.ite ?_ ?_)
   | (with_reducible refine LeO.bind ?_ (fun _ => ?_))
   | exact ih0 _ _ _ _
   | exact ih1 _ _ _ _ _
   | exact ih2 _ _ _ _ _
   | exact kindlinglaw07_known.mono _
   | exact kindlingref07_Right.mono _ _ _ _ _
   | exact kindlingref07_Same.mono _ _ _ _
   | exact lex_Print.mono _ _
   | exact lex_Scan.mono _ _
   | exact LeO.none _
   | refine LeO.ite ?_ ?_
   | refine LeO.bind ?_ (fun _ => ?_)
  ·intro y0 y1 y2 y3 y4
   unfold kindlinglaw07_LexBack.j1
   repeat' first
   | (with_reducible exact ih0 _ _ _ _)
   | (with_reducible exact ih1 _ _ _ _ _)
   | (with_reducible exact ih2 _ _ _ _ _)
   | (with_reducible exact kindlinglaw07_known.mono _)
   | (with_reducible exact kindlingref07_Right.mono _ _ _ _ _)
   | (with_reducible exact kindlingref07_Same.mono _ _ _ _)
   | (with_reducible exact lex_Print.mono _ _)
   | (with_reducible exact lex_Scan.mono _ _)
   | (with_reducible exact LeO.refl _)
   | (with_reducible exact LeO.none _)
   | (with_reducible refine LeO.ite ?_ ?_)
   | (with_reducible refine LeO.bind ?_ (fun _ => ?_))
   | exact ih0 _ _ _ _
   | exact ih1 _ _ _ _ _
   | exact ih2 _ _ _ _ _
   | exact kindlinglaw07_known.mono _
   | exact kindlingref07_Right.mono _ _ _ _ _
   | exact kindlingref07_Same.mono _ _ _ _
   | exact lex_Print.mono _ _
   | exact lex_Scan.mono _ _
   | exact LeO.none _
   | refine LeO.ite ?_ ?_
   | refine LeO.bind ?_ (fun _ => ?_)
  ·intro y0 y1 y2 y3 y4
   unfold kindlinglaw07_LexBack.j2
   repeat' first
   | (with_reducible exact ih0 _ _ _ _)
   | (with_reducible exact ih1 _ _ _ _ _)
   | (with_reducible exact ih2 _ _ _ _ _)
   | (with_reducible exact kindlinglaw07_known.mono _)
   | (with_reducible exact kindlingref07_Right.mono _ _ _ _ _)
   | (with_reducible exact kindlingref07_Same.mono _ _ _ _)
   | (with_reducible exact lex_Print.mono _ _)
   | (with_reducible exact lex_Scan.mono _ _)
   | (with_reducible exact LeO.refl _)
   | (with_reducible exact LeO.none _)
   | (with_reducible refine LeO.ite ?_ ?_)
   | (with_reducible refine LeO.bind ?_ (fun _ => ?_))
   | exact ih0 _ _ _ _
   | exact ih1 _ _ _ _ _
   | exact ih2 _ _ _ _ _
   | exact kindlinglaw07_known.mono _
   | exact kindlingref07_Right.mono _ _ _ _ _
   | exact kindlingref07_Same.mono _ _ _ _
   | exact lex_Print.mono _ _
   | exact lex_Scan.mono _ _
   | exact LeO.none _
   | refine LeO.ite ?_ ?_
   | refine LeO.bind ?_ (fun _ => ?_)
theorem kindlinglaw07_LexBack.mono : ∀ a0 k, LeO (kindlinglaw07_LexBack.f k a0) (kindlinglaw07_LexBack.f (k + 1) a0) := by
 intro a0 k
 obtain ⟨ih0, ih1, ih2⟩ := kindlinglaw07_LexBack.mono_l k
 unfold kindlinglaw07_LexBack.f
 repeat' first
   | (with_reducible exact ih0 _ _ _ _)
   | (with_reducible exact ih1 _ _ _ _ _)
   | (with_reducible exact ih2 _ _ _ _ _)
   | (with_reducible exact kindlinglaw07_known.mono _)
   | (with_reducible exact kindlingref07_Right.mono _ _ _ _ _)
   | (with_reducible exact kindlingref07_Same.mono _ _ _ _)
   | (with_reducible exact lex_Print.mono _ _)
   | (with_reducible exact lex_Scan.mono _ _)
   | (with_reducible exact LeO.refl _)
   | (with_reducible exact LeO.none _)
   | (with_reducible refine LeO.ite ?_ ?_)
   | (with_reducible refine LeO.bind ?_ (fun _ => ?_))
   | exact ih0 _ _ _ _
   | exact ih1 _ _ _ _ _
   | exact ih2 _ _ _ _ _
   | exact kindlinglaw07_known.mono _
   | exact kindlingref07_Right.mono _ _ _ _ _
   | exact kindlingref07_Same.mono _ _ _ _
   | exact lex_Print.mono _ _
   | exact lex_Scan.mono _ _
   | exact LeO.none _
   | refine LeO.ite ?_ ?_
   | refine LeO.bind ?_ (fun _ => ?_)
set_option maxHeartbeats 8000000 in
set_option maxRecDepth 100000 in
theorem kindlinglaw07_LexBack.calls (k : Nat) (A0 : Option Addr) (c0 : Nat) (l0 : List (S32)) (r : Bool) (w : World) (hr0 : Kd.C k32 w A0 l0.length l0) (hc0 : l0.length ≤ c0) (hrG0 : Kd.C Kd.string w AG0 lG0.length lG0) (hrG1 : Kd.C Kd.string w AG1 lG1.length lG1) (hr : r = true) (h : kindlinglaw07_LexBack.f k l0 = some r) :
  Calls Tryd.prog 7 #[.slice A0 l0.length c0] w fun e w' => e = .returned (.bool r) ∧ Below w.heap.size w w' := by
 have hu32 := Tryd.underlying32
 have HR0 := Aside0.mk hr0
 have HC0 := Aside0.mk hc0
 clear hr0 hc0
 have HRG0 := Aside0.mk hrG0
 have HCG0 := Aside0.mk (show lG0.length ≤ cG0 by decide)
 clear hrG0
 have HRG1 := Aside0.mk hrG1
 have HCG1 := Aside0.mk (show lG1.length ≤ cG1 by decide)
 clear hrG1
 have HB := Aside0.mk (Below.refl w.heap.size w)
 have H : (kindlinglaw07_LexBack.l0 k l0 ([] : List (S32)) 0 0) = some r := h
 clear h
 have H' := Aside0.mk H
 clear H
 go_enter Tryd.func7, Tryd.ntmps7
 go_wp2
 go_loopg [3, 4, 5] k (fun kq v3 v4 v5 w' => ∃ (x3_1 : List (S32)) (x4_1 : Int) (x5_1 : Int), v4 = .int .i64 x4_1 ∧ v5 = .int .i64 x5_1 ∧ Aside0 (kindlinglaw07_LexBack.l0 kq l0 x3_1 x4_1 x5_1 = some r) ∧ Aside0 (kq ≤ k) ∧ Aside0 (Kd.R k32 32 w' w.heap.size (fun _ => True) v3 x3_1) ∧ Aside0 (Below w.heap.size w w'))
 case atStart => exact ⟨(([] : List (S32))), (0), (0), (by first | rfl | (simp; done) | (simp [*]; done) | (simp [i64_w, u8_w]; done) | (simp; simp only [isEmpty_bne]; done)), (by first | rfl | (simp; done) | (simp [*]; done) | (simp [i64_w, u8_w]; done) | (simp; simp only [isEmpty_bne]; done)), H', ⟨Nat.le_refl _⟩, ⟨by first | exact Kd.R_nil _ _ _ _ _ | exact Kd.N_nil _ _ _ _ _ | exact Kd.V_nil _ _ _ _ _ | exact Kd.Q_nil _ _ _ _ _ | exact Kd.S_nil _ _ _ _ _⟩, ⟨by first | exact ai | (with_reducible exact HB.out)⟩⟩
 case round =>
  clear H'
  obtain ⟨x3_1, x4_1, x5_1, rfl, rfl, HA, HK1, HO_3, HB⟩ := hrel
  cases gk with
  | zero => exact absurd HA.out (by simp [kindlinglaw07_LexBack.l0])
  | succ k1 =>
   have H := HA.out
   clear HA
   simp only [kindlinglaw07_LexBack.l0] at H
   have HC2 := Aside0.mk H
   clear H
   go_upto_region 4 with (fail)
   go_cut [18] (fun v18 wc => ∃ (kq : Nat) (x18_1 : Bool), v18 = .bool x18_1 ∧ Aside0 (kindlinglaw07_LexBack.j1 kq l0 x3_1 x4_1 x5_1 x18_1 = some r) ∧ Aside0 (kq ≤ k1) ∧ Aside0 (Kd.R k32 32 wc w.heap.size (fun _ => True) u3 x3_1) ∧ Aside0 (Below w.heap.size w wc))
   case first =>
    have H := HC2.out
    clear HC2
    by_cases c3 : x5_1 < (l0.length : Int)
    ·rw [if_pos c3] at H
     have c3b0 : decide (x5_1 < (l0.length : Int)) = true := decide_eq_true c3
     clear c3
     (first | rw [c3b0] | rw [c3b1] | (simp only [i64_w, i32_w]; rw [c3b0]) | skip)
     have H' := Aside0.mk H
     clear H
     go_wp2
     go_meet
     case rel => exact ⟨_, (decide (x4_1 ≤ 1000)), (by first | rfl | (simp; done) | (simp [*]; done) | (simp [i64_w, u8_w]; done) | (simp; simp only [isEmpty_bne]; done)), H', ⟨by have := HK1.out; first | omega | exact Nat.le_refl _⟩, ⟨by exact Kd.R_up <| HO_3.out⟩, ⟨by first | exact ai | (with_reducible exact HB.out)⟩⟩
    ·rw [if_neg c3] at H
     have c3b0 : decide (x5_1 < (l0.length : Int)) = false := decide_eq_false c3
     clear c3
     (first | rw [c3b0] | rw [c3b1] | (simp only [i64_w, i32_w]; rw [c3b0]) | skip)
     have H' := Aside0.mk H
     clear H
     go_wp2
     go_meet
     case rel => exact ⟨_, (false), (by first | rfl | (simp; done) | (simp [*]; done) | (simp [i64_w, u8_w]; done) | (simp; simp only [isEmpty_bne]; done)), H', ⟨by have := HK1.out; first | omega | exact Nat.le_refl _⟩, ⟨by exact Kd.R_up <| HO_3.out⟩, ⟨by first | exact ai | (with_reducible exact HB.out)⟩⟩
   case rest =>
    clear HC2
    (try clear p2); (try clear c3); (try clear c3b0)
    obtain ⟨kq, x18_1, rfl, HA, HJ1, HO_3, HB⟩ := hcut
    cases kq with
    | zero => exact absurd HA.out (by simp [kindlinglaw07_LexBack.j1])
    | succ kj1 =>
     have H := HA.out
     clear HA
     simp only [kindlinglaw07_LexBack.j1] at H
     by_cases c4 : x18_1 = true
     ·subst c4
      have H1 : (if 0 ≤ x5_1 then (if x5_1 < (l0.length : Int) then (if (wrap64 ((wrap64 (x4_1 + 1)) + (((rd_T32 l0 x5_1).f1).size : Int))) ≤ 1000 then ((kindlingref07_Right.f kj1 ((rd_T32 l0 x5_1).f0) ((rd_T32 l0 x5_1).f1) ((rd_T32 l0 x5_1).f2) ((rd_T32 l0 x5_1).f3)).bind fun t406 => (if t406 = true then (kindlinglaw07_LexBack.j2 kj1 l0 x3_1 (wrap64 ((wrap64 (x4_1 + 1)) + (((rd_T32 l0 x5_1).f1).size : Int))) x5_1 (((rd_T32 l0 x5_1).f0) != 0)) else (kindlinglaw07_LexBack.j2 kj1 l0 x3_1 (wrap64 ((wrap64 (x4_1 + 1)) + (((rd_T32 l0 x5_1).f1).size : Int))) x5_1 false))) else (kindlinglaw07_LexBack.j2 kj1 l0 x3_1 (wrap64 ((wrap64 (x4_1 + 1)) + (((rd_T32 l0 x5_1).f1).size : Int))) x5_1 false)) else (none)) else (none)) = some r := by rw [if_pos rfl] at H; exact H
      clear H
      have H := H1
      clear H1
      by_cases c5 : 0 ≤ x5_1
      ·rw [if_pos c5] at H
       have c5b0 : decide (0 ≤ x5_1) = true := decide_eq_true c5
       clear c5
       by_cases c6 : x5_1 < (l0.length : Int)
       ·rw [if_pos c6] at H
        have c6b0 : decide (x5_1 < (l0.length : Int)) = true := decide_eq_true c6
        clear c6
        have HC7 := Aside0.mk H
        clear H
        have p404 : 0 ≤ (x5_1 : Int) := of_decide_eq_true (by first | (with_reducible assumption) | assumption)
        have q404 : x5_1 < (l0.length : Int) := of_decide_eq_true (by first | (with_reducible assumption) | assumption)
        obtain ⟨ad404, e404, hx404_0, hx404_1, hx404_2, hx404_3⟩ := at_T32 HR0.out x5_1 p404 q404
        cases e404
        replace hx404_0 := (HB.out.cell (World.block_lt_of_cell? w _ hx404_0)).trans hx404_0
        replace hx404_1 := (HB.out.cell (World.block_lt_of_cell? w _ hx404_1)).trans hx404_1
        replace hx404_2 := (HB.out.cell (World.block_lt_of_cell? w _ hx404_2)).trans hx404_2
        replace hx404_3 := (HB.out.cell (World.block_lt_of_cell? w _ hx404_3)).trans hx404_3
        replace p404 := eq_true p404
        replace q404 := eq_true q404
        go_upto_region 7 with (fail)
        go_cut [46] (fun v46 wc => ∃ (kq : Nat) (x46_6 : Bool), v46 = .bool x46_6 ∧ Aside0 (kindlinglaw07_LexBack.j2 kq l0 x3_1 (wrap64 ((wrap64 (x4_1 + 1)) + (((rd_T32 l0 x5_1).f1).size : Int))) x5_1 x46_6 = some r) ∧ Aside0 (kq ≤ kj1) ∧ Aside0 (Kd.R k32 32 wc w.heap.size (fun _ => True) u3 x3_1) ∧ Aside0 (Below w.heap.size w wc))
        case first =>
         have H := HC7.out
         clear HC7
         by_cases c8 : (wrap64 ((wrap64 (x4_1 + 1)) + (((rd_T32 l0 x5_1).f1).size : Int))) ≤ 1000
         ·rw [if_pos c8] at H
          have c8b0 : decide ((wrap64 ((wrap64 (x4_1 + 1)) + (((rd_T32 l0 x5_1).f1).size : Int))) ≤ 1000) = true := decide_eq_true c8
          clear c8
          (first | rw [c8b0] | rw [c8b1] | (simp only [i64_w, i32_w]; rw [c8b0]) | skip)
          replace H := Option.bind_eq_some_iff.mp H
          obtain ⟨t406, A90, H⟩ := H
          replace H : (if t406 = true then (kindlinglaw07_LexBack.j2 kj1 l0 x3_1 (wrap64 ((wrap64 (x4_1 + 1)) + (((rd_T32 l0 x5_1).f1).size : Int))) x5_1 (((rd_T32 l0 x5_1).f0) != 0)) else (kindlinglaw07_LexBack.j2 kj1 l0 x3_1 (wrap64 ((wrap64 (x4_1 + 1)) + (((rd_T32 l0 x5_1).f1).size : Int))) x5_1 false)) = some r := H
          have A9 := Aside0.mk A90
          clear A90
          by_cases c10 : t406 = true
          ·subst c10
           have H1 : (kindlinglaw07_LexBack.j2 kj1 l0 x3_1 (wrap64 ((wrap64 (x4_1 + 1)) + (((rd_T32 l0 x5_1).f1).size : Int))) x5_1 (((rd_T32 l0 x5_1).f0) != 0)) = some r := by rw [if_pos rfl] at H; exact H
           clear H
           have H := H1
           clear H1
           have H' := Aside0.mk H
           clear H
           have p405 : 0 ≤ (x5_1 : Int) := of_decide_eq_true (by first | (with_reducible assumption) | assumption)
           have q405 : x5_1 < (l0.length : Int) := of_decide_eq_true (by first | (with_reducible assumption) | assumption)
           obtain ⟨ad405, e405, hx405_0, hx405_1, hx405_2, hx405_3⟩ := at_T32 HR0.out x5_1 p405 q405
           obtain rfl : ad404 = ad405 := (by injection e405)
           replace hx405_0 := (HB.out.cell (World.block_lt_of_cell? w _ hx405_0)).trans hx405_0
           replace hx405_1 := (HB.out.cell (World.block_lt_of_cell? w _ hx405_1)).trans hx405_1
           replace hx405_2 := (HB.out.cell (World.block_lt_of_cell? w _ hx405_2)).trans hx405_2
           replace hx405_3 := (HB.out.cell (World.block_lt_of_cell? w _ hx405_3)).trans hx405_3
           replace p405 := eq_true p405
           replace q405 := eq_true q405
           go_wp2_with (first | (go_at_call 19; (with_reducible refine (kindlingref07_Right.calls kj1 ((rd_T32 l0 x5_1).f0) ((rd_T32 l0 x5_1).f1) ((rd_T32 l0 x5_1).f2) ((rd_T32 l0 x5_1).f3) true _ A9.out).mono ?_); rintro e w11 ⟨rfl, hb⟩; have n0_ := Aside0.mk (Kd.R_below (by exact Kd.R_up <| HO_3.out) hb); have n1_ := Aside0.mk (below_step (by first | exact ai | (with_reducible exact HB.out) : Below w.heap.size w _) hb); clear HO_3; clear HB; have HO_3 := n0_; have HB := n1_; clear n0_ n1_; (try clear hb); (try clear hb2); (try clear hk); (try clear hi); have p407 : 0 ≤ (x5_1 : Int) := of_decide_eq_true (by first | (with_reducible assumption) | assumption); have q407 : x5_1 < (l0.length : Int) := of_decide_eq_true (by first | (with_reducible assumption) | assumption); obtain ⟨ad407, e407, hx407_0, hx407_1, hx407_2, hx407_3⟩ := at_T32 HR0.out x5_1 p407 q407; obtain rfl : ad404 = ad407 := (by injection e407); replace hx407_0 := (HB.out.cell (World.block_lt_of_cell? w _ hx407_0)).trans hx407_0; replace hx407_1 := (HB.out.cell (World.block_lt_of_cell? w _ hx407_1)).trans hx407_1; replace hx407_2 := (HB.out.cell (World.block_lt_of_cell? w _ hx407_2)).trans hx407_2; replace hx407_3 := (HB.out.cell (World.block_lt_of_cell? w _ hx407_3)).trans hx407_3; replace p407 := eq_true p407; replace q407 := eq_true q407))
           go_meet
           case rel => exact ⟨_, ((((rd_T32 l0 x5_1).f0) != 0)), (by first | rfl | (simp; done) | (simp [*]; done) | (simp [i64_w, u8_w]; done) | (simp; simp only [isEmpty_bne]; done)), H', ⟨by have := HK1.out; have := HJ1.out; first | omega | exact Nat.le_refl _⟩, ⟨by exact Kd.R_up <| HO_3.out⟩, ⟨by first | exact ai | (with_reducible exact HB.out)⟩⟩
          ·replace c10 := Bool.eq_false_iff.mpr c10
           subst c10
           have H1 : (kindlinglaw07_LexBack.j2 kj1 l0 x3_1 (wrap64 ((wrap64 (x4_1 + 1)) + (((rd_T32 l0 x5_1).f1).size : Int))) x5_1 false) = some r := by rw [if_neg (show ¬ (false = true) by decide)] at H; exact H
           clear H
           have H := H1
           clear H1
           have H' := Aside0.mk H
           clear H
           have p405 : 0 ≤ (x5_1 : Int) := of_decide_eq_true (by first | (with_reducible assumption) | assumption)
           have q405 : x5_1 < (l0.length : Int) := of_decide_eq_true (by first | (with_reducible assumption) | assumption)
           obtain ⟨ad405, e405, hx405_0, hx405_1, hx405_2, hx405_3⟩ := at_T32 HR0.out x5_1 p405 q405
           obtain rfl : ad404 = ad405 := (by injection e405)
           replace hx405_0 := (HB.out.cell (World.block_lt_of_cell? w _ hx405_0)).trans hx405_0
           replace hx405_1 := (HB.out.cell (World.block_lt_of_cell? w _ hx405_1)).trans hx405_1
           replace hx405_2 := (HB.out.cell (World.block_lt_of_cell? w _ hx405_2)).trans hx405_2
           replace hx405_3 := (HB.out.cell (World.block_lt_of_cell? w _ hx405_3)).trans hx405_3
           replace p405 := eq_true p405
           replace q405 := eq_true q405
           go_wp2_with (first | (go_at_call 19; (with_reducible refine (kindlingref07_Right.calls kj1 ((rd_T32 l0 x5_1).f0) ((rd_T32 l0 x5_1).f1) ((rd_T32 l0 x5_1).f2) ((rd_T32 l0 x5_1).f3) false _ A9.out).mono ?_); rintro e w12 ⟨rfl, hb⟩; have n0_ := Aside0.mk (Kd.R_below (by exact Kd.R_up <| HO_3.out) hb); have n1_ := Aside0.mk (below_step (by first | exact ai | (with_reducible exact HB.out) : Below w.heap.size w _) hb); clear HO_3; clear HB; have HO_3 := n0_; have HB := n1_; clear n0_ n1_; (try clear hb); (try clear hb2); (try clear hk); (try clear hi)))
           go_meet
           case rel => exact ⟨_, (false), (by first | rfl | (simp; done) | (simp [*]; done) | (simp [i64_w, u8_w]; done) | (simp; simp only [isEmpty_bne]; done)), H', ⟨by have := HK1.out; have := HJ1.out; first | omega | exact Nat.le_refl _⟩, ⟨by exact Kd.R_up <| HO_3.out⟩, ⟨by first | exact ai | (with_reducible exact HB.out)⟩⟩
         ·rw [if_neg c8] at H
          have c8b0 : decide ((wrap64 ((wrap64 (x4_1 + 1)) + (((rd_T32 l0 x5_1).f1).size : Int))) ≤ 1000) = false := decide_eq_false c8
          clear c8
          (first | rw [c8b0] | rw [c8b1] | (simp only [i64_w, i32_w]; rw [c8b0]) | skip)
          have H' := Aside0.mk H
          clear H
          go_wp2
          go_meet
          case rel => exact ⟨_, (false), (by first | rfl | (simp; done) | (simp [*]; done) | (simp [i64_w, u8_w]; done) | (simp; simp only [isEmpty_bne]; done)), H', ⟨by have := HK1.out; have := HJ1.out; first | omega | exact Nat.le_refl _⟩, ⟨by exact Kd.R_up <| HO_3.out⟩, ⟨by first | exact ai | (with_reducible exact HB.out)⟩⟩
        case rest =>
         clear HC7
         (try clear c1); (try clear p2); (try clear c3); (try clear c3b0); (try clear c4); (try clear p4); (try clear q4); (try clear hx4); (try clear c5); (try clear c5b0); (try clear c6); (try clear c6b0); (try clear p6); (try clear c7); (try clear c8); (try clear c8b0); (try clear c10); (try clear hx404_0); (try clear hx404_1); (try clear hx404_2); (try clear hx404_3); (try clear hx405_0); (try clear hx405_1); (try clear hx405_2); (try clear hx405_3); (try clear hx407_0); (try clear hx407_1); (try clear hx407_2); (try clear hx407_3); (try clear p2); (try clear p404); (try clear p405); (try clear p407); (try clear q404); (try clear q405); (try clear q407)
         obtain ⟨kq, x46_6, rfl, HA, HJ6, HO_3, HB⟩ := hcut
         cases kq with
         | zero => exact absurd HA.out (by simp [kindlinglaw07_LexBack.j2])
         | succ kj6 =>
          have H := HA.out
          clear HA
          simp only [kindlinglaw07_LexBack.j2] at H
          by_cases c13 : x46_6 = true
          ·subst c13
           have H1 : (if 0 ≤ x5_1 then (if x5_1 < (l0.length : Int) then (if x3_1.length < 3518437208883 then (kindlinglaw07_LexBack.l0 kj6 l0 (x3_1 ++ [(⟨(rd_T32 l0 x5_1).f0, (rd_T32 l0 x5_1).f1, (rd_T32 l0 x5_1).f2, (rd_T32 l0 x5_1).f3⟩ : S32)]) (wrap64 ((wrap64 (x4_1 + 1)) + (((rd_T32 l0 x5_1).f1).size : Int))) (wrap64 (x5_1 + 1))) else (none)) else (none)) else (none)) = some r := by rw [if_pos rfl] at H; exact H
           clear H
           have H := H1
           clear H1
           by_cases c14 : 0 ≤ x5_1
           ·rw [if_pos c14] at H
            have c14b0 : decide (0 ≤ x5_1) = true := decide_eq_true c14
            clear c14
            by_cases c15 : x5_1 < (l0.length : Int)
            ·rw [if_pos c15] at H
             have c15b0 : decide (x5_1 < (l0.length : Int)) = true := decide_eq_true c15
             clear c15
             by_cases c16 : x3_1.length < 3518437208883
             ·rw [if_pos c16] at H
              have LMc16 := Aside0.mk c16
              clear c16
              obtain ⟨y409, hy409⟩ : ∃ y_ : List (S32), y_ = (x3_1 ++ [(⟨(rd_T32 l0 x5_1).f0, (rd_T32 l0 x5_1).f1, (rd_T32 l0 x5_1).f2, (rd_T32 l0 x5_1).f3⟩ : S32)]) := ⟨_, rfl⟩
              replace H : (kindlinglaw07_LexBack.l0 kj6 l0 y409 (wrap64 ((wrap64 (x4_1 + 1)) + (((rd_T32 l0 x5_1).f1).size : Int))) (wrap64 (x5_1 + 1))) = some r := by first | (rw [hy409]; with_reducible exact H) | (have H2_ := (Option.bind_some _ _).symm.trans H; rw [hy409]; with_reducible exact H2_) | (have H2_ := (Option.bind_some _ _).symm.trans H; with_reducible exact H2_) | with_reducible exact H | (rw [hy409]; exact H) | exact H
              have Ny409 := Aside0.mk hy409
              clear hy409
              have H' := Aside0.mk H
              clear H
              have p408 : 0 ≤ (x5_1 : Int) := of_decide_eq_true (by first | (with_reducible assumption) | assumption)
              have q408 : x5_1 < (l0.length : Int) := of_decide_eq_true (by first | (with_reducible assumption) | assumption)
              obtain ⟨ad408, e408, hx408_0, hx408_1, hx408_2, hx408_3⟩ := at_T32 HR0.out x5_1 p408 q408
              obtain rfl : ad404 = ad408 := (by injection e408)
              replace hx408_0 := (HB.out.cell (World.block_lt_of_cell? w _ hx408_0)).trans hx408_0
              replace hx408_1 := (HB.out.cell (World.block_lt_of_cell? w _ hx408_1)).trans hx408_1
              replace hx408_2 := (HB.out.cell (World.block_lt_of_cell? w _ hx408_2)).trans hx408_2
              replace hx408_3 := (HB.out.cell (World.block_lt_of_cell? w _ hx408_3)).trans hx408_3
              replace p408 := eq_true p408
              replace q408 := eq_true q408
              go_wp2_with (first | ((with_reducible refine gate_builtin (b := .append) (xs := #[.tmp 47, .tmp 52]) rfl ?_); (try (refine gate_guard (by rfl) ?_; dsimp only)); at_builtin; refine Kd.R_append k32 (w0 := w) w.heap.size rfl (.tmp 47) (.tmp 52) 24 32 (.agg #[(.int .i64 0), (.string ⟨#[]⟩), (.int .i64 0), (.int .i64 0)]) 40 rfl Tryd.underlying24 info32 rfl (by decide) (by omega) u3 x3_1 (⟨(rd_T32 l0 x5_1).f0, (rd_T32 l0 x5_1).f1, (rd_T32 l0 x5_1).f2, (rd_T32 l0 x5_1).f3⟩ : S32) [.int .i64 ((rd_T32 l0 x5_1).f0), .string ((rd_T32 l0 x5_1).f1), .int .i64 ((rd_T32 l0 x5_1).f2), .int .i64 ((rd_T32 l0 x5_1).f3)] (fun _ => True) (fun _ => False) rfl rfl ?aP (fun _ hk => hk.elim) ?aF ?aO ?aB ?aS ?aL ?_; (case aP => exact k32_mkM _ _ _ (⟨(rd_T32 l0 x5_1).f0, (rd_T32 l0 x5_1).f1, (rd_T32 l0 x5_1).f2, (rd_T32 l0 x5_1).f3⟩ : S32)); (case aB => exact (by first | exact ai | (with_reducible exact HB.out))); (case aF => exact (fun _ _ => trivial)); (case aO => exact (by exact Kd.R_up <| HO_3.out)); (case aS => exact (below_size (by first | exact ai | (with_reducible exact HB.out) : Below w.heap.size w _))); (case aL => have := LMc16.out; omega); intro v410 w17 ho hb hg hat; rw [← Ny409.out] at ho; have n0_ := Aside0.mk (hb); have n1_ := Aside0.mk (ho); clear HB; clear HO_3; have HB := n0_; have HO411 := n1_; clear n0_ n1_; clear ho hb hg hat))
              go_roundg kj6
              case measure => have := HK1.out; have := HJ1.out; have := HJ6.out; omega
              case rel => exact ⟨(y409), ((wrap64 ((wrap64 (x4_1 + 1)) + (((rd_T32 l0 x5_1).f1).size : Int)))), (wrap64 (x5_1 + 1)), (by first | rfl | (simp; done) | (simp [*]; done) | (simp [i64_w, u8_w]; done) | (simp; simp only [isEmpty_bne]; done)), (by first | rfl | (simp; done) | (simp [*]; done) | (simp [i64_w, u8_w]; done) | (simp; simp only [isEmpty_bne]; done)), H', ⟨by have := HK1.out; have := HJ1.out; have := HJ6.out; omega⟩, ⟨by exact Kd.R_up <| HO411.out⟩, ⟨by first | exact ai | (with_reducible exact HB.out)⟩⟩
             ·rw [if_neg c16] at H
              exact absurd H (by simp)
            ·rw [if_neg c15] at H
             exact absurd H (by simp)
           ·rw [if_neg c14] at H
            exact absurd H (by simp)
          ·replace c13 := Bool.eq_false_iff.mpr c13
           subst c13
           have H1 : (kindlinglaw07_LexBack.l0 kj6 l0 x3_1 (wrap64 ((wrap64 (x4_1 + 1)) + (((rd_T32 l0 x5_1).f1).size : Int))) (wrap64 (x5_1 + 1))) = some r := by rw [if_neg (show ¬ (false = true) by decide)] at H; exact H
           clear H
           have H := H1
           clear H1
           have H' := Aside0.mk H
           clear H
           go_wp2
           go_roundg kj6
           case measure => have := HK1.out; have := HJ1.out; have := HJ6.out; omega
           case rel => exact ⟨(x3_1), ((wrap64 ((wrap64 (x4_1 + 1)) + (((rd_T32 l0 x5_1).f1).size : Int)))), (wrap64 (x5_1 + 1)), (by first | rfl | (simp; done) | (simp [*]; done) | (simp [i64_w, u8_w]; done) | (simp; simp only [isEmpty_bne]; done)), (by first | rfl | (simp; done) | (simp [*]; done) | (simp [i64_w, u8_w]; done) | (simp; simp only [isEmpty_bne]; done)), H', ⟨by have := HK1.out; have := HJ1.out; have := HJ6.out; omega⟩, ⟨by exact Kd.R_up <| HO_3.out⟩, ⟨by first | exact ai | (with_reducible exact HB.out)⟩⟩
       ·rw [if_neg c6] at H
        exact absurd H (by simp)
      ·rw [if_neg c5] at H
       exact absurd H (by simp)
     ·replace c4 := Bool.eq_false_iff.mpr c4
      subst c4
      have H1 : ((lex_Print.f kj1 x3_1).bind fun bt412 => ((lex_Scan.f kj1 bt412.1).bind fun bt414 => (if bt412.2 = 0 then (if (bt412.1.size : Int) > 4096 then (if bt414.2.2 = 3 then ((kindlinglaw07_known.f kj1).bind fun t419 => (some t419)) else (some false)) else (if bt414.2.2 = 0 then (if x3_1.length < 3518437208883 then ((kindlingref07_Same.f kj1 bt414.1 (x3_1 ++ [(⟨0, (⟨#[]⟩ : ByteArray), 0, 0⟩ : S32)]) false).bind fun t423 => (if t423 = true then ((kindlinglaw07_known.f kj1).bind fun t424 => (some t424)) else (some false))) else (none)) else (some false))) else (some false)))) = some r := by rw [if_neg (show ¬ (false = true) by decide)] at H; exact H
      clear H
      have H := H1
      clear H1
      replace H := Option.bind_eq_some_iff.mp H
      obtain ⟨⟨t412, t413⟩, A180, H⟩ := H
      replace H : ((lex_Scan.f kj1 t412).bind fun bt414 => (if t413 = 0 then (if (t412.size : Int) > 4096 then (if bt414.2.2 = 3 then ((kindlinglaw07_known.f kj1).bind fun t419 => (some t419)) else (some false)) else (if bt414.2.2 = 0 then (if x3_1.length < 3518437208883 then ((kindlingref07_Same.f kj1 bt414.1 (x3_1 ++ [(⟨0, (⟨#[]⟩ : ByteArray), 0, 0⟩ : S32)]) false).bind fun t423 => (if t423 = true then ((kindlinglaw07_known.f kj1).bind fun t424 => (some t424)) else (some false))) else (none)) else (some false))) else (some false))) = some r := H
      have A18 := Aside0.mk A180
      clear A180
      replace H := Option.bind_eq_some_iff.mp H
      obtain ⟨⟨t414, t415, t416⟩, A190, H⟩ := H
      replace H : (if t413 = 0 then (if (t412.size : Int) > 4096 then (if t416 = 3 then ((kindlinglaw07_known.f kj1).bind fun t419 => (some t419)) else (some false)) else (if t416 = 0 then (if x3_1.length < 3518437208883 then ((kindlingref07_Same.f kj1 t414 (x3_1 ++ [(⟨0, (⟨#[]⟩ : ByteArray), 0, 0⟩ : S32)]) false).bind fun t423 => (if t423 = true then ((kindlinglaw07_known.f kj1).bind fun t424 => (some t424)) else (some false))) else (none)) else (some false))) else (some false)) = some r := H
      have A19 := Aside0.mk A190
      clear A190
      by_cases c20 : t413 = 0
      ·rw [if_pos c20] at H
       have c20b0 : (t413 == 0) = true := beq_iff_eq.mpr c20
       have c20b1 : (t413 != 0) = false := bne_eq_false_iff_eq.mpr c20
       clear c20
       by_cases c21 : (t412.size : Int) > 4096
       ·rw [if_pos c21] at H
        have c21b0 : decide (4096 < (t412.size : Int)) = true := decide_eq_true c21
        have c21b1 : decide (4096 < t412.size) = true := decide_eq_true (by omega)
        clear c21
        by_cases c22 : t416 = 3
        ·rw [if_pos c22] at H
         have c22b0 : (t416 == 3) = true := beq_iff_eq.mpr c22
         have c22b1 : (t416 != 3) = false := bne_eq_false_iff_eq.mpr c22
         clear c22
         replace H := Option.bind_eq_some_iff.mp H
         obtain ⟨t419, A230, H⟩ := H
         replace H : (some t419) = some r := H
         have A23 := Aside0.mk A230
         clear A230
         obtain rfl := Option.some.inj H
         obtain ⟨Ao24, co24, eo24⟩ := Kd.R_slice HO_3.out
         subst eo24
         go_wp2_with (first | ((with_reducible refine gate_callee (f := 20) rfl ?_); refine goesL_ (some 56) rfl rfl Tryd.func20 (by kernel_rfl) rfl #[.slice Ao24 x3_1.length co24] rfl (by (try simp only [List.map_toArray, List.map_cons, List.map_nil]); first | done | rfl | (simp only [List.length_drop, List.length_take]; rfl)) ?_; (with_reducible refine (lex_Print.calls kj1 _ _ x3_1 t412 t413 _ ?side1 ?side2 ?side3 ?side4 A18.out).mono ?_); (case side1 => exact Kd.C_up <| (Kd.R_reads' HO_3.out).2.2); (case side2 => exact (Kd.R_reads' HO_3.out).2.1); (case side3 => exact Kd.C_up <| (Kd.C_below HRG0.out HB.out)); (case side4 => exact Kd.C_up <| (Kd.C_below HRG1.out HB.out)); rintro e w25 ⟨rfl, hb⟩; refine ⟨_, rfl, ?_⟩; have n0_ := Aside0.mk (Kd.R_below (by exact Kd.R_up <| HO_3.out) hb); have n1_ := Aside0.mk (below_step (by first | exact ai | (with_reducible exact HB.out) : Below w.heap.size w _) hb); clear HO_3; clear HB; have HO_3 := n0_; have HB := n1_; clear n0_ n1_; (try clear hb); (try clear hb2); (try clear hk); (try clear hi)) | ((with_reducible refine gate_callee (f := 13) rfl ?_); refine goesL_ (some 61) rfl rfl Tryd.func13 (by kernel_rfl) rfl #[.string t412] rfl (by (try simp only [List.map_toArray, List.map_cons, List.map_nil]); first | done | rfl | (simp only [List.length_drop, List.length_take]; rfl)) ?_; (with_reducible refine (lex_Scan.calls kj1 t412 t414 t415 t416 _ ?side1 ?side2 A19.out).mono ?_); (case side1 => exact Kd.C_up <| (Kd.C_below HRG0.out HB.out)); (case side2 => exact Kd.C_up <| (Kd.C_below HRG1.out HB.out)); rintro e w26 ⟨v417, rfl, ho0, hb⟩; refine ⟨_, rfl, ?_⟩; have n0_ := Aside0.mk (Kd.R_elder' (by exact Kd.R_up <| HO_3.out) (Kd.R_base ho0) hb); have n1_ := Aside0.mk (Kd.R_lower (Kd.R_new' ho0 (Kd.R_lt (by exact Kd.R_up <| HO_3.out))) (below_size (by first | exact ai | (with_reducible exact HB.out) : Below w.heap.size w _))); have n2_ := Aside0.mk (below_step (by first | exact ai | (with_reducible exact HB.out) : Below w.heap.size w _) hb); clear HO_3; clear HB; have HO_3 := n0_; have HO418 := n1_; have HB := n2_; clear n0_ n1_ n2_; (try clear hb); (try clear hb2); (try clear hk); (try clear hi); (try clear ho0)) | (go_at_call 12; (with_reducible refine (kindlinglaw07_known.calls kj1  t419 _ ?side1 ?side2 A23.out).mono ?_); (case side1 => exact Kd.C_up <| (Kd.C_below HRG0.out HB.out)); (case side2 => exact Kd.C_up <| (Kd.C_below HRG1.out HB.out)); rintro e w27 ⟨rfl, hb⟩; have n0_ := Aside0.mk (Kd.R_below (by exact Kd.R_up <| HO_3.out) hb); have n1_ := Aside0.mk (Kd.R_below (by exact Kd.R_up <| HO418.out) hb); have n2_ := Aside0.mk (below_step (by first | exact ai | (with_reducible exact HB.out) : Below w.heap.size w _) hb); clear HO_3; clear HO418; clear HB; have HO_3 := n0_; have HO418 := n1_; have HB := n2_; clear n0_ n1_ n2_; (try clear hb); (try clear hb2); (try clear hk); (try clear hi)))
         go_ret
         exact ⟨by first | rfl | (simp [errW_none, errW_some] <;> rfl) | (simp [*, errW_none, errW_some] <;> rfl), by first | exact ai | (with_reducible exact HB.out)⟩
        ·rw [if_neg c22] at H
         exact absurd (H.trans (congrArg some hr)) (by simp)
       ·rw [if_neg c21] at H
        have c21b0 : decide (4096 < (t412.size : Int)) = false := decide_eq_false c21
        have c21b1 : decide (4096 < t412.size) = false := decide_eq_false (by omega)
        clear c21
        by_cases c31 : t416 = 0
        ·rw [if_pos c31] at H
         have c31b0 : (t416 == 0) = true := beq_iff_eq.mpr c31
         have c31b1 : (t416 != 0) = false := bne_eq_false_iff_eq.mpr c31
         clear c31
         by_cases c32 : x3_1.length < 3518437208883
         ·rw [if_pos c32] at H
          have LMc32 := Aside0.mk c32
          clear c32
          obtain ⟨y420, hy420⟩ : ∃ y_ : List (S32), y_ = (x3_1 ++ [(⟨0, (⟨#[]⟩ : ByteArray), 0, 0⟩ : S32)]) := ⟨_, rfl⟩
          replace H : ((kindlingref07_Same.f kj1 t414 y420 false).bind fun t423 => (if t423 = true then ((kindlinglaw07_known.f kj1).bind fun t424 => (some t424)) else (some false))) = some r := by first | (rw [hy420]; with_reducible exact H) | (have H2_ := (Option.bind_some _ _).symm.trans H; rw [hy420]; with_reducible exact H2_) | (have H2_ := (Option.bind_some _ _).symm.trans H; with_reducible exact H2_) | with_reducible exact H | (rw [hy420]; exact H) | exact H
          have Ny420 := Aside0.mk hy420
          clear hy420
          replace H := Option.bind_eq_some_iff.mp H
          obtain ⟨t423, A330, H⟩ := H
          replace H : (if t423 = true then ((kindlinglaw07_known.f kj1).bind fun t424 => (some t424)) else (some false)) = some r := H
          have A33 := Aside0.mk A330
          clear A330
          by_cases c34 : t423 = true
          ·subst c34
           have H1 : ((kindlinglaw07_known.f kj1).bind fun t424 => (some t424)) = some r := by rw [if_pos rfl] at H; exact H
           clear H
           have H := H1
           clear H1
           replace H := Option.bind_eq_some_iff.mp H
           obtain ⟨t424, A350, H⟩ := H
           replace H : (some t424) = some r := H
           have A35 := Aside0.mk A350
           clear A350
           obtain rfl := Option.some.inj H
           obtain ⟨Ao36, co36, eo36⟩ := Kd.R_slice HO_3.out
           subst eo36
           go_wp2_with (first | ((with_reducible refine gate_callee (f := 20) rfl ?_); refine goesL_ (some 56) rfl rfl Tryd.func20 (by kernel_rfl) rfl #[.slice Ao36 x3_1.length co36] rfl (by (try simp only [List.map_toArray, List.map_cons, List.map_nil]); first | done | rfl | (simp only [List.length_drop, List.length_take]; rfl)) ?_; (with_reducible refine (lex_Print.calls kj1 _ _ x3_1 t412 t413 _ ?side1 ?side2 ?side3 ?side4 A18.out).mono ?_); (case side1 => exact Kd.C_up <| (Kd.R_reads' HO_3.out).2.2); (case side2 => exact (Kd.R_reads' HO_3.out).2.1); (case side3 => exact Kd.C_up <| (Kd.C_below HRG0.out HB.out)); (case side4 => exact Kd.C_up <| (Kd.C_below HRG1.out HB.out)); rintro e w37 ⟨rfl, hb⟩; refine ⟨_, rfl, ?_⟩; have n0_ := Aside0.mk (Kd.R_below (by exact Kd.R_up <| HO_3.out) hb); have n1_ := Aside0.mk (below_step (by first | exact ai | (with_reducible exact HB.out) : Below w.heap.size w _) hb); clear HO_3; clear HB; have HO_3 := n0_; have HB := n1_; clear n0_ n1_; (try clear hb); (try clear hb2); (try clear hk); (try clear hi)) | ((with_reducible refine gate_callee (f := 13) rfl ?_); refine goesL_ (some 61) rfl rfl Tryd.func13 (by kernel_rfl) rfl #[.string t412] rfl (by (try simp only [List.map_toArray, List.map_cons, List.map_nil]); first | done | rfl | (simp only [List.length_drop, List.length_take]; rfl)) ?_; (with_reducible refine (lex_Scan.calls kj1 t412 t414 t415 t416 _ ?side1 ?side2 A19.out).mono ?_); (case side1 => exact Kd.C_up <| (Kd.C_below HRG0.out HB.out)); (case side2 => exact Kd.C_up <| (Kd.C_below HRG1.out HB.out)); rintro e w38 ⟨v417, rfl, ho0, hb⟩; refine ⟨_, rfl, ?_⟩; have n0_ := Aside0.mk (Kd.R_elder' (by exact Kd.R_up <| HO_3.out) (Kd.R_base ho0) hb); have n1_ := Aside0.mk (Kd.R_lower (Kd.R_new' ho0 (Kd.R_lt (by exact Kd.R_up <| HO_3.out))) (below_size (by first | exact ai | (with_reducible exact HB.out) : Below w.heap.size w _))); have n2_ := Aside0.mk (below_step (by first | exact ai | (with_reducible exact HB.out) : Below w.heap.size w _) hb); clear HO_3; clear HB; have HO_3 := n0_; have HO418 := n1_; have HB := n2_; clear n0_ n1_ n2_; (try clear hb); (try clear hb2); (try clear hk); (try clear hi); (try clear ho0)) | ((with_reducible refine gate_builtin (b := .append) (xs := #[.tmp 79, .tmp 81]) rfl ?_); (try (refine gate_guard (by rfl) ?_; dsimp only)); at_builtin; refine Kd.R_append k32 (w0 := w) w.heap.size rfl (.tmp 79) (.tmp 81) 24 32 (.agg #[(.int .i64 0), (.string ⟨#[]⟩), (.int .i64 0), (.int .i64 0)]) 40 rfl Tryd.underlying24 info32 rfl (by decide) (by omega) (.slice Ao36 x3_1.length co36) x3_1 (⟨0, (⟨#[]⟩ : ByteArray), 0, 0⟩ : S32) [.int .i64 0, .string (⟨#[]⟩ : ByteArray), .int .i64 0, .int .i64 0] (fun k_ => some k_ ≠ (v417 : Value).ownBlock) (fun _ => False) rfl rfl ?aP (fun _ hk => hk.elim) ?aF ?aO ?aB ?aS ?aL ?_; (case aP => exact k32_mkM _ _ _ (⟨0, (⟨#[]⟩ : ByteArray), 0, 0⟩ : S32)); (case aB => exact (by first | exact ai | (with_reducible exact HB.out))); (case aF => exact (fun k_ hk => Kd.fresh' (Kd.R_lt (by exact Kd.R_up <| HO418.out)) k_ hk)); (case aO => exact (by exact Kd.R_up <| Kd.R_mono HO_3.out (fun _ hk => hk.2))); (case aS => exact (below_size (by first | exact ai | (with_reducible exact HB.out) : Below w.heap.size w _))); (case aL => have := LMc32.out; omega); intro v421 w39 ho hb hg hat; rw [← Ny420.out] at ho; have n0_ := Aside0.mk (Kd.R_after (ok := (fun _ => True)) (by exact Kd.R_up <| HO418.out) hg hat); have n1_ := Aside0.mk (hb); have n2_ := Aside0.mk (ho); clear HO418; clear HB; clear HO_3; have HO418 := n0_; have HB := n1_; have HO422 := n2_; clear n0_ n1_ n2_; clear ho hb hg hat; obtain ⟨Ao40, co40, eo40⟩ := Kd.R_slice HO418.out; subst eo40; obtain ⟨Ao41, co41, eo41⟩ := Kd.R_slice HO422.out; subst eo41) | (go_at_call 15; (with_reducible refine (kindlingref07_Same.calls kj1 _ _ t414 _ _ y420 false true _ ?side1 ?side2 ?side3 ?side4 A33.out).mono ?_); (case side1 => exact Kd.C_up <| (Kd.R_reads' HO418.out).2.2); (case side2 => exact (Kd.R_reads' HO418.out).2.1); (case side3 => exact Kd.C_up <| (Kd.R_reads' HO422.out).2.2); (case side4 => exact (Kd.R_reads' HO422.out).2.1); rintro e w42 ⟨rfl, hb⟩; have n0_ := Aside0.mk (Kd.R_below (by exact Kd.R_up <| HO418.out) hb); have n1_ := Aside0.mk (Kd.R_below (by exact Kd.R_up <| HO422.out) hb); have n2_ := Aside0.mk (below_step (by first | exact ai | (with_reducible exact HB.out) : Below w.heap.size w _) hb); clear HO418; clear HO422; clear HB; have HO418 := n0_; have HO422 := n1_; have HB := n2_; clear n0_ n1_ n2_; (try clear hb); (try clear hb2); (try clear hk); (try clear hi)) | (go_at_call 12; (with_reducible refine (kindlinglaw07_known.calls kj1  t424 _ ?side1 ?side2 A35.out).mono ?_); (case side1 => exact Kd.C_up <| (Kd.C_below HRG0.out HB.out)); (case side2 => exact Kd.C_up <| (Kd.C_below HRG1.out HB.out)); rintro e w43 ⟨rfl, hb⟩; have n0_ := Aside0.mk (Kd.R_below (by exact Kd.R_up <| HO418.out) hb); have n1_ := Aside0.mk (Kd.R_below (by exact Kd.R_up <| HO422.out) hb); have n2_ := Aside0.mk (below_step (by first | exact ai | (with_reducible exact HB.out) : Below w.heap.size w _) hb); clear HO418; clear HO422; clear HB; have HO418 := n0_; have HO422 := n1_; have HB := n2_; clear n0_ n1_ n2_; (try clear hb); (try clear hb2); (try clear hk); (try clear hi)))
           go_ret
           exact ⟨by first | rfl | (simp [errW_none, errW_some] <;> rfl) | (simp [*, errW_none, errW_some] <;> rfl), by first | exact ai | (with_reducible exact HB.out)⟩
          ·replace c34 := Bool.eq_false_iff.mpr c34
           subst c34
           have H1 : (some false) = some r := by rw [if_neg (show ¬ (false = true) by decide)] at H; exact H
           exact absurd (H1.trans (congrArg some hr)) (by simp)
         ·rw [if_neg c32] at H
          exact absurd H (by simp)
        ·rw [if_neg c31] at H
         exact absurd (H.trans (congrArg some hr)) (by simp)
      ·rw [if_neg c20] at H
       exact absurd (H.trans (congrArg some hr)) (by simp)
end Go.Proofs.YtnihjlnnllngeaaDoor.PL
