-- Printed by kprint.py, lay.py, programs of this claim's author over the kit's printer.
import Derived.Test.YtnihjlnnllngeaaDoorF0
import Derived.Test.YtnihjlnnllngeaaDoorFScan
import Derived.Test.YtnihjlnnllngeaaDoorFKnown
import Derived.Test.YtnihjlnnllngeaaDoorFRSame
namespace Go.Proofs.YtnihjlnnllngeaaDoor.PL
open Go.RowKit Go.Proofs.YtnihjlnnllngeaaDoorW.PrintWords Go.Proofs.YtnihjlnnllngeaaDoorW.PrintLast Go.Proofs.YtnihjlnnllngeaaDoorW.PrintMore
attribute [local go_sem] max2_int min2_int max_two min_two max_three min_three max_four min_four   -- for this text's walks alone
set_option linter.unusedVariables false
set_option linter.unusedSimpArgs false

/-! ### kindlinglaw07_LexJoins: function 9 -/
mutual
def kindlinglaw07_LexJoins.j0 : Nat → ByteArray → ByteArray → Bool → Option (Bool)
 | 0, _, _, _ => none
 | k + 1, x0, x1, x24 => if x24 = true then ((kindlinglaw07_known.f k).bind fun t452 => (some t452)) else ((lex_Scan.f k x0).bind fun bt453 => ((lex_Scan.f k x1).bind fun bt458 => (if x0.size + 1 ≤ 9223372036854775807 then (if (x0 ++ (⟨#[10]⟩ : ByteArray)).size + x1.size ≤ 9223372036854775807 then ((lex_Scan.f k ((x0 ++ (⟨#[10]⟩ : ByteArray)) ++ x1)).bind fun bt463 => (if bt453.2.2 = 0 then (kindlinglaw07_LexJoins.j1 k x0 bt453.1 bt453.2.2 bt458.1 bt463.1 bt463.2.2 (bt458.2.2 != 0)) else (kindlinglaw07_LexJoins.j1 k x0 bt453.1 bt453.2.2 bt458.1 bt463.1 bt463.2.2 true))) else (none)) else (none))))
def kindlinglaw07_LexJoins.j1 : Nat → ByteArray → List (S32) → Int → List (S32) → List (S32) → Int → Bool → Option (Bool)
 | 0, _, _, _, _, _, _, _ => none
 | k + 1, x0, x5, x7, x8, x11, x13, x52 => if x52 = true then (if x7 = 0 then ((kindlinglaw07_known.f k).bind fun t468 => (some t468)) else (if (x5.length : Int) = 0 then ((kindlinglaw07_known.f k).bind fun t469 => (some t469)) else (some false))) else (if (x5.length : Int) = 0 then (kindlinglaw07_LexJoins.j2 k x0 x5 x8 x11 x13 true) else (kindlinglaw07_LexJoins.j2 k x0 x5 x8 x11 x13 ((x8.length : Int) == 0)))
def kindlinglaw07_LexJoins.j2 : Nat → ByteArray → List (S32) → List (S32) → List (S32) → Int → Bool → Option (Bool)
 | 0, _, _, _, _, _, _ => none
 | k + 1, x0, x5, x8, x11, x13, x70 => if x70 = true then (some false) else (if (wrap64 ((wrap64 ((x5.length : Int) + (x8.length : Int))) - 2)) > 1000 then (if x13 = 3 then ((kindlinglaw07_known.f k).bind fun t470 => (some t470)) else (some false)) else (if 0 ≤ (wrap64 ((x5.length : Int) - 1)) then (if (wrap64 ((x5.length : Int) - 1)) ≤ (x5.length : Int) then ((some (x5.take ((wrap64 ((x5.length : Int) - 1)) : Int).toNat : List (S32))).bind fun y471 => (if ([] : List (S32)).length + y471.length < 3518437208883 then (kindlinglaw07_LexJoins.l0 k x0 x8 x11 x13 (([] : List (S32)) ++ y471) 0) else (none))) else (none)) else (none)))
def kindlinglaw07_LexJoins.l0 : Nat → ByteArray → List (S32) → List (S32) → Int → List (S32) → Int → Option (Bool)
 | 0, _, _, _, _, _, _ => none
 | k + 1, x0, x8, x11, x13, x14, x15 => if x15 < (x8.length : Int) then (if 0 ≤ x15 then (if x14.length < 3518437208883 then (kindlinglaw07_LexJoins.l0 k x0 x8 x11 x13 (x14 ++ [(⟨(rd_T32 x8 x15).f0, (rd_T32 x8 x15).f1, (rd_T32 x8 x15).f2, wrap64 ((wrap64 (((rd_T32 x8 x15).f3) + (x0.size : Int))) + 1)⟩ : S32)]) (wrap64 (x15 + 1))) else (none)) else (none)) else (if x13 = 0 then ((kindlingref07_Same.f k x11 x14 true).bind fun t483 => (if t483 = true then ((kindlinglaw07_known.f k).bind fun t484 => (some t484)) else (some false))) else (some false))
end
def kindlinglaw07_LexJoins.f (k : Nat) (a0 : ByteArray) (a1 : ByteArray) : Option (Bool) := if (a0.size : Int) > 2000 then (kindlinglaw07_LexJoins.j0 k a0 a1 true) else (kindlinglaw07_LexJoins.j0 k a0 a1 (decide ((a1.size : Int) > 2000)))
theorem kindlinglaw07_LexJoins.mono_l : ∀ k, (∀ y0 y1 y2, LeO (kindlinglaw07_LexJoins.j0 k y0 y1 y2) (kindlinglaw07_LexJoins.j0 (k + 1) y0 y1 y2)) ∧ (∀ y0 y1 y2 y3 y4 y5 y6, LeO (kindlinglaw07_LexJoins.j1 k y0 y1 y2 y3 y4 y5 y6) (kindlinglaw07_LexJoins.j1 (k + 1) y0 y1 y2 y3 y4 y5 y6)) ∧ (∀ y0 y1 y2 y3 y4 y5, LeO (kindlinglaw07_LexJoins.j2 k y0 y1 y2 y3 y4 y5) (kindlinglaw07_LexJoins.j2 (k + 1) y0 y1 y2 y3 y4 y5)) ∧ (∀ y0 y1 y2 y3 y4 y5, LeO (kindlinglaw07_LexJoins.l0 k y0 y1 y2 y3 y4 y5) (kindlinglaw07_LexJoins.l0 (k + 1) y0 y1 y2 y3 y4 y5))
 | 0 => ⟨fun _ _ _ r h => by simp [kindlinglaw07_LexJoins.j0] at h, fun _ _ _ _ _ _ _ r h => by simp [kindlinglaw07_LexJoins.j1] at h, fun _ _ _ _ _ _ r h => by simp [kindlinglaw07_LexJoins.j2] at h, fun _ _ _ _ _ _ r h => by simp [kindlinglaw07_LexJoins.l0] at h⟩
 | k + 1 => by
  obtain ⟨ih0, ih1, ih2, ih3⟩ := kindlinglaw07_LexJoins.mono_l k
  refine ⟨?_, ?_, ?_, ?_⟩
  ·intro y0 y1 y2
   unfold kindlinglaw07_LexJoins.j0
   repeat' first
   | (with_reducible exact ih0 _ _ _)
   | (with_reducible exact ih1 _ _ _ _ _ _ _)
   | (with_reducible exact ih2 _ _ _ _ _ _)
   | (with_reducible exact ih3 _ _ _ _ _ _)
   | (with_reducible exact kindlinglaw07_known.mono _)
   | (with_reducible exact kindlingref07_Same.mono _ _ _ _)
   | (with_reducible exact lex_Scan.mono _ _)
   | (with_reducible exact LeO.refl _)
   | (with_reducible exact LeO.none _)
   | (with_reducible refine LeO.ite ?_ ?_)
   | (with_reducible refine LeO.bind ?_ (fun _ => ?_))
   | exact ih0 _ _ _
   | exact ih1 _ _ _ _ _ _ _
   | exact ih2 _ _ _ _ _ _
   | exact ih3 _ _ _ _ _ _
   | exact kindlinglaw07_known.mono _
   | exact kindlingref07_Same.mono _ _ _ _
   | exact lex_Scan.mono _ _
   | exact LeO.none _
   | refine LeO.ite ?_ ?_
   | refine LeO.bind ?_ (fun _ => ?_)
  ·intro y0 y1 y2 y3 y4 y5 y6
   unfold kindlinglaw07_LexJoins.j1
   repeat' first
   | (with_reducible exact ih0 _ _ _)
   | (with_reducible exact ih1 _ _ _ _ _ _ _)
   | (with_reducible exact ih2 _ _ _ _ _ _)
   | (with_reducible exact ih3 _ _ _ _ _ _)
   | (with_reducible exact kindlinglaw07_known.mono _)
   | (with_reducible exact kindlingref07_Same.mono _ _ _ _)
   | (with_reducible exact lex_Scan.mono _ _)
   | (with_reducible exact LeO.refl _)
   | (with_reducible exact LeO.none _)
   | (with_reducible refine LeO.ite ?_ ?_)
   | (with_reducible refine LeO.bind ?_ (fun _ => ?_))
   | exact ih0 _ _ _
   | exact ih1 _ _ _ _ _ _ _
   | exact ih2 _ _ _ _ _ _
   | exact ih3 _ _ _ _ _ _
   | exact kindlinglaw07_known.mono _
   | exact kindlingref07_Same.mono _ _ _ _
   | exact lex_Scan.mono _ _
   | exact LeO.none _
   | refine LeO.ite ?_ ?_
   | refine LeO.bind ?_ (fun _ => ?_)
  ·intro y0 y1 y2 y3 y4 y5
   unfold kindlinglaw07_LexJoins.j2
   repeat' first
   | (with_reducible exact ih0 _ _ _)
   | (with_reducible exact ih1 _ _ _ _ _ _ _)
   | (with_reducible exact ih2 _ _ _ _ _ _)
   | (with_reducible exact ih3 _ _ _ _ _ _)
   | (with_reducible exact kindlinglaw07_known.mono _)
   | (with_reducible exact kindlingref07_Same.mono _ _ _ _)
   | (with_reducible exact lex_Scan.mono _ _)
   | (with_reducible exact LeO.refl _)
   | (with_reducible exact LeO.none _)
   | (with_reducible refine LeO.ite ?_ ?_)
   | (with_reducible refine LeO.bind ?_ (fun _ => ?_))
   | exact ih0 _ _ _
   | exact ih1 _ _ _ _ _ _ _
   | exact ih2 _ _ _ _ _ _
   | exact ih3 _ _ _ _ _ _
   | exact kindlinglaw07_known.mono _
   | exact kindlingref07_Same.mono _ _ _ _
   | exact lex_Scan.mono _ _
   | exact LeO.none _
   | refine LeO.ite ?_ ?_
   | refine LeO.bind ?_ (fun _ => ?_)
  ·intro y0 y1 y2 y3 y4 y5
   unfold kindlinglaw07_LexJoins.l0
   repeat' first
   | (with_reducible exact ih0 _ _ _)
   | (with_reducible exact ih1 _ _ _ _ _ _ _)
   | (with_reducible exact ih2 _ _ _ _ _ _)
   | (with_reducible exact ih3 _ _ _ _ _ _)
   | (with_reducible exact kindlinglaw07_known.mono _)
   | (with_reducible exact kindlingref07_Same.mono _ _ _ _)
   | (with_reducible exact lex_Scan.mono _ _)
   | (with_reducible exact LeO.refl _)
   | (with_reducible exact LeO.none _)
   | (with_reducible refine LeO.ite ?_ ?_)
   | (with_reducible refine LeO.bind ?_ (fun _ => ?_))
   | exact ih0 _ _ _
   | exact ih1 _ _ _ _ _ _ _
   | exact ih2 _ _ _ _ _ _
   | exact ih3 _ _ _ _ _ _
   | exact kindlinglaw07_known.mono _
   | exact kindlingref07_Same.mono _ _ _ _
   | exact lex_Scan.mono _ _
   | exact LeO.none _
   | refine LeO.ite ?_ ?_
   | refine LeO.bind ?_ (fun _ => ?_)
theorem kindlinglaw07_LexJoins.mono : ∀ a0 a1 k, LeO (kindlinglaw07_LexJoins.f k a0 a1) (kindlinglaw07_LexJoins.f (k + 1) a0 a1) := by
 intro a0 a1 k
 obtain ⟨ih0, ih1, ih2, ih3⟩ := kindlinglaw07_LexJoins.mono_l k
 unfold kindlinglaw07_LexJoins.f
 repeat' first
   | (with_reducible exact ih0 _ _ _)
   | (with_reducible exact ih1 _ _ _ _ _ _ _)
   | (with_reducible exact ih2 _ _ _ _ _ _)
   | (with_reducible exact ih3 _ _ _ _ _ _)
   | (with_reducible exact kindlinglaw07_known.mono _)
   | (with_reducible exact kindlingref07_Same.mono _ _ _ _)
   | (with_reducible exact lex_Scan.mono _ _)
   | (with_reducible exact LeO.refl _)
   | (with_reducible exact LeO.none _)
   | (with_reducible refine LeO.ite ?_ ?_)
   | (with_reducible refine LeO.bind ?_ (fun _ => ?_))
   | exact ih0 _ _ _
   | exact ih1 _ _ _ _ _ _ _
   | exact ih2 _ _ _ _ _ _
   | exact ih3 _ _ _ _ _ _
   | exact kindlinglaw07_known.mono _
   | exact kindlingref07_Same.mono _ _ _ _
   | exact lex_Scan.mono _ _
   | exact LeO.none _
   | refine LeO.ite ?_ ?_
   | refine LeO.bind ?_ (fun _ => ?_)
set_option maxHeartbeats 8000000 in
set_option maxRecDepth 100000 in
theorem kindlinglaw07_LexJoins.calls (k : Nat) (a0 : ByteArray) (a1 : ByteArray) (r : Bool) (w : World) (hrG0 : Kd.C Kd.string w AG0 lG0.length lG0) (hrG1 : Kd.C Kd.string w AG1 lG1.length lG1) (hr : r = true) (h : kindlinglaw07_LexJoins.f k a0 a1 = some r) :
  Calls Tryd.prog 9 #[.string a0, .string a1] w fun e w' => e = .returned (.bool r) ∧ Below w.heap.size w w' := by
 have hu32 := Tryd.underlying32
 have HRG0 := Aside0.mk hrG0
 have HCG0 := Aside0.mk (show lG0.length ≤ cG0 by decide)
 clear hrG0
 have HRG1 := Aside0.mk hrG1
 have HCG1 := Aside0.mk (show lG1.length ≤ cG1 by decide)
 clear hrG1
 have HB := Aside0.mk (Below.refl w.heap.size w)
 have H : (if (a0.size : Int) > 2000 then (kindlinglaw07_LexJoins.j0 k a0 a1 true) else (kindlinglaw07_LexJoins.j0 k a0 a1 (decide ((a1.size : Int) > 2000)))) = some r := h
 clear h
 have HC3 := Aside0.mk H
 clear H
 go_enter Tryd.func9, Tryd.ntmps9
 go_upto_region 1 with (fail)
 go_cut [24] (fun v24 wc => ∃ (kq : Nat) (x24_2 : Bool), v24 = .bool x24_2 ∧ Aside0 (kindlinglaw07_LexJoins.j0 kq a0 a1 x24_2 = some r) ∧ Aside0 (kq ≤ k) ∧ Aside0 (Below w.heap.size w wc))
 case first =>
  have H := HC3.out
  clear HC3
  by_cases c4 : (a0.size : Int) > 2000
  ·rw [if_pos c4] at H
   have c4b0 : decide (2000 < (a0.size : Int)) = true := decide_eq_true c4
   have c4b1 : decide (2000 < a0.size) = true := decide_eq_true (by omega)
   clear c4
   (first | rw [c4b0] | rw [c4b1] | (simp only [i64_w, i32_w]; rw [c4b0]) | skip)
   have H' := Aside0.mk H
   clear H
   go_wp2
   go_meet
   case rel => exact ⟨_, (true), (by first | rfl | (simp; done) | (simp [*]; done) | (simp [i64_w, u8_w]; done) | (simp; simp only [isEmpty_bne]; done)), H', ⟨by first | omega | exact Nat.le_refl _⟩, ⟨by first | exact ai | (with_reducible exact HB.out)⟩⟩
  ·rw [if_neg c4] at H
   have c4b0 : decide (2000 < (a0.size : Int)) = false := decide_eq_false c4
   have c4b1 : decide (2000 < a0.size) = false := decide_eq_false (by omega)
   clear c4
   (first | rw [c4b0] | rw [c4b1] | (simp only [i64_w, i32_w]; rw [c4b0]) | skip)
   have H' := Aside0.mk H
   clear H
   go_wp2
   go_meet
   case rel => exact ⟨_, (decide ((a1.size : Int) > 2000)), (by first | rfl | (simp; done) | (simp [*]; done) | (simp [i64_w, u8_w]; done) | (simp; simp only [isEmpty_bne]; done)), H', ⟨by first | omega | exact Nat.le_refl _⟩, ⟨by first | exact ai | (with_reducible exact HB.out)⟩⟩
 case rest =>
  clear HC3
  try clear p2
  try clear c4
  try clear c4b0
  try clear c4b1
  obtain ⟨kq, x24_2, rfl, HA, HJ2, HB⟩ := hcut
  cases kq with
  | zero => exact absurd HA.out (by simp [kindlinglaw07_LexJoins.j0])
  | succ kj2 =>
   have H := HA.out
   clear HA
   simp only [kindlinglaw07_LexJoins.j0] at H
   by_cases c5 : x24_2 = true
   ·subst c5
    have H1 : ((kindlinglaw07_known.f kj2).bind fun t452 => (some t452)) = some r := by rw [if_pos rfl] at H; exact H
    clear H
    have H := H1
    clear H1
    replace H := Option.bind_eq_some_iff.mp H
    obtain ⟨t452, A60, H⟩ := H
    replace H : (some t452) = some r := H
    have A6 := Aside0.mk A60
    clear A60
    obtain rfl := Option.some.inj H
    go_wp2_with (first | ((with_reducible refine gate_callee (f := 12) rfl ?_); refine goesL_ (some 25) rfl rfl Tryd.func12 (by kernel_rfl) rfl #[] rfl (by (try simp only [List.map_toArray, List.map_cons, List.map_nil]); first | done | rfl | (simp only [List.length_drop, List.length_take]; rfl)) ?_; (with_reducible refine (kindlinglaw07_known.calls kj2  t452 _ ?side1 ?side2 A6.out).mono ?_); (case side1 => exact Kd.C_up <| (Kd.C_below HRG0.out HB.out)); (case side2 => exact Kd.C_up <| (Kd.C_below HRG1.out HB.out)); rintro e w7 ⟨rfl, hb⟩; refine ⟨_, rfl, ?_⟩; have n0_ := Aside0.mk (below_step (by first | exact ai | (with_reducible exact HB.out) : Below w.heap.size w _) hb); clear HB; have HB := n0_; clear n0_; (try clear hb); (try clear hb2); (try clear hk); (try clear hi)))
    go_ret
    exact ⟨by first | rfl | (simp [errW_none, errW_some] <;> rfl) | (simp [*, errW_none, errW_some] <;> rfl), by first | exact ai | (with_reducible exact HB.out)⟩
   ·replace c5 := Bool.eq_false_iff.mpr c5
    subst c5
    have H1 : ((lex_Scan.f kj2 a0).bind fun bt453 => ((lex_Scan.f kj2 a1).bind fun bt458 => (if a0.size + 1 ≤ 9223372036854775807 then (if (a0 ++ (⟨#[10]⟩ : ByteArray)).size + a1.size ≤ 9223372036854775807 then ((lex_Scan.f kj2 ((a0 ++ (⟨#[10]⟩ : ByteArray)) ++ a1)).bind fun bt463 => (if bt453.2.2 = 0 then (kindlinglaw07_LexJoins.j1 kj2 a0 bt453.1 bt453.2.2 bt458.1 bt463.1 bt463.2.2 (bt458.2.2 != 0)) else (kindlinglaw07_LexJoins.j1 kj2 a0 bt453.1 bt453.2.2 bt458.1 bt463.1 bt463.2.2 true))) else (none)) else (none)))) = some r := by rw [if_neg (show ¬ (false = true) by decide)] at H; exact H
    clear H
    have H := H1
    clear H1
    replace H := Option.bind_eq_some_iff.mp H
    obtain ⟨⟨t453, t454, t455⟩, A80, H⟩ := H
    replace H : ((lex_Scan.f kj2 a1).bind fun bt458 => (if a0.size + 1 ≤ 9223372036854775807 then (if (a0 ++ (⟨#[10]⟩ : ByteArray)).size + a1.size ≤ 9223372036854775807 then ((lex_Scan.f kj2 ((a0 ++ (⟨#[10]⟩ : ByteArray)) ++ a1)).bind fun bt463 => (if t455 = 0 then (kindlinglaw07_LexJoins.j1 kj2 a0 t453 t455 bt458.1 bt463.1 bt463.2.2 (bt458.2.2 != 0)) else (kindlinglaw07_LexJoins.j1 kj2 a0 t453 t455 bt458.1 bt463.1 bt463.2.2 true))) else (none)) else (none))) = some r := H
    have A8 := Aside0.mk A80
    clear A80
    replace H := Option.bind_eq_some_iff.mp H
    obtain ⟨⟨t458, t459, t460⟩, A90, H⟩ := H
    replace H : (if a0.size + 1 ≤ 9223372036854775807 then (if (a0 ++ (⟨#[10]⟩ : ByteArray)).size + a1.size ≤ 9223372036854775807 then ((lex_Scan.f kj2 ((a0 ++ (⟨#[10]⟩ : ByteArray)) ++ a1)).bind fun bt463 => (if t455 = 0 then (kindlinglaw07_LexJoins.j1 kj2 a0 t453 t455 t458 bt463.1 bt463.2.2 (t460 != 0)) else (kindlinglaw07_LexJoins.j1 kj2 a0 t453 t455 t458 bt463.1 bt463.2.2 true))) else (none)) else (none)) = some r := H
    have A9 := Aside0.mk A90
    clear A90
    by_cases c10 : a0.size + 1 ≤ 9223372036854775807
    ·rw [if_pos c10] at H
     have c10b0 := eq_true c10
     have c10b1 : decide (a0.size + 1 ≤ 9223372036854775807) = true := decide_eq_true c10
     try have c10b2 : (9223372036854775807 < a0.size + 1) = False := eq_false (Nat.not_lt.2 c10)
     by_cases c11 : (a0 ++ (⟨#[10]⟩ : ByteArray)).size + a1.size ≤ 9223372036854775807
     ·rw [if_pos c11] at H
      have c11b0 := eq_true c11
      have c11b1 : decide ((a0 ++ (⟨#[10]⟩ : ByteArray)).size + a1.size ≤ 9223372036854775807) = true := decide_eq_true c11
      try have c11b2 : (9223372036854775807 < (a0 ++ (⟨#[10]⟩ : ByteArray)).size + a1.size) = False := eq_false (Nat.not_lt.2 c11)
      replace H := Option.bind_eq_some_iff.mp H
      obtain ⟨⟨t463, t464, t465⟩, A120, H⟩ := H
      replace H : (if t455 = 0 then (kindlinglaw07_LexJoins.j1 kj2 a0 t453 t455 t458 t463 t465 (t460 != 0)) else (kindlinglaw07_LexJoins.j1 kj2 a0 t453 t455 t458 t463 t465 true)) = some r := H
      have A12 := Aside0.mk A120
      clear A120
      have HC13 := Aside0.mk H
      clear H
      go_upto_region 6 with (first | ((with_reducible refine gate_callee (f := 13) rfl ?_); refine goesL_ (some 28) rfl rfl Tryd.func13 (by kernel_rfl) rfl #[.string a0] rfl (by (try simp only [List.map_toArray, List.map_cons, List.map_nil]); first | done | rfl | (simp only [List.length_drop, List.length_take]; rfl)) ?_; (with_reducible refine (lex_Scan.calls kj2 a0 t453 t454 t455 _ ?side1 ?side2 A8.out).mono ?_); (case side1 => exact Kd.C_up <| (Kd.C_below HRG0.out HB.out)); (case side2 => exact Kd.C_up <| (Kd.C_below HRG1.out HB.out)); rintro e w14 ⟨v456, rfl, ho0, hb⟩; refine ⟨_, rfl, ?_⟩; have n0_ := Aside0.mk (Kd.R_lower ho0 (below_size (by first | exact ai | (with_reducible exact HB.out) : Below w.heap.size w _))); have n1_ := Aside0.mk (below_step (by first | exact ai | (with_reducible exact HB.out) : Below w.heap.size w _) hb); clear HB; have HO457 := n0_; have HB := n1_; clear n0_ n1_; (try clear hb); (try clear hb2); (try clear hk); (try clear hi); (try clear ho0)) | ((with_reducible refine gate_callee (f := 13) rfl ?_); refine goesL_ (some 34) rfl rfl Tryd.func13 (by kernel_rfl) rfl #[.string a1] rfl (by (try simp only [List.map_toArray, List.map_cons, List.map_nil]); first | done | rfl | (simp only [List.length_drop, List.length_take]; rfl)) ?_; (with_reducible refine (lex_Scan.calls kj2 a1 t458 t459 t460 _ ?side1 ?side2 A9.out).mono ?_); (case side1 => exact Kd.C_up <| (Kd.C_below HRG0.out HB.out)); (case side2 => exact Kd.C_up <| (Kd.C_below HRG1.out HB.out)); rintro e w15 ⟨v461, rfl, ho0, hb⟩; refine ⟨_, rfl, ?_⟩; have n0_ := Aside0.mk (Kd.R_elder' (by exact Kd.R_up <| HO457.out) (Kd.R_base ho0) hb); have n1_ := Aside0.mk (Kd.R_lower (Kd.R_new' ho0 (Kd.R_lt (by exact Kd.R_up <| HO457.out))) (below_size (by first | exact ai | (with_reducible exact HB.out) : Below w.heap.size w _))); have n2_ := Aside0.mk (below_step (by first | exact ai | (with_reducible exact HB.out) : Below w.heap.size w _) hb); clear HO457; clear HB; have HO457 := n0_; have HO462 := n1_; have HB := n2_; clear n0_ n1_ n2_; (try clear hb); (try clear hb2); (try clear hk); (try clear hi); (try clear ho0)) | ((with_reducible refine gate_callee (f := 13) rfl ?_); refine goesL_ (some 43) rfl rfl Tryd.func13 (by kernel_rfl) rfl #[.string ((a0 ++ (⟨#[10]⟩ : ByteArray)) ++ a1)] rfl (by (try simp only [List.map_toArray, List.map_cons, List.map_nil]); first | done | rfl | (simp only [List.length_drop, List.length_take]; rfl)) ?_; (with_reducible refine (lex_Scan.calls kj2 ((a0 ++ (⟨#[10]⟩ : ByteArray)) ++ a1) t463 t464 t465 _ ?side1 ?side2 A12.out).mono ?_); (case side1 => exact Kd.C_up <| (Kd.C_below HRG0.out HB.out)); (case side2 => exact Kd.C_up <| (Kd.C_below HRG1.out HB.out)); rintro e w16 ⟨v466, rfl, ho0, hb⟩; refine ⟨_, rfl, ?_⟩; have n0_ := Aside0.mk (Kd.R_elder' (by exact Kd.R_up <| HO457.out) (Kd.R_base ho0) hb); have n1_ := Aside0.mk (Kd.R_elder' (by exact Kd.R_up <| HO462.out) (Kd.R_base ho0) hb); have n2_ := Aside0.mk (Kd.R_lower (Kd.R_new' (Kd.R_new' ho0 (Kd.R_lt (by exact Kd.R_up <| HO457.out))) (Kd.R_lt (by exact Kd.R_up <| HO462.out))) (below_size (by first | exact ai | (with_reducible exact HB.out) : Below w.heap.size w _))); have n3_ := Aside0.mk (below_step (by first | exact ai | (with_reducible exact HB.out) : Below w.heap.size w _) hb); clear HO457; clear HO462; clear HB; have HO457 := n0_; have HO462 := n1_; have HO467 := n2_; have HB := n3_; clear n0_ n1_ n2_ n3_; (try clear hb); (try clear hb2); (try clear hk); (try clear hi); (try clear ho0)))
      (try simp only [Act.put, List.setIfInBounds_toArray, List.set_cons_zero, List.set_cons_succ])
      go_cut [52] (fun v52 wc => ∃ (kq : Nat) (x52_12 : Bool), v52 = .bool x52_12 ∧ Aside0 (kindlinglaw07_LexJoins.j1 kq a0 t453 t455 t458 t463 t465 x52_12 = some r) ∧ Aside0 (kq ≤ kj2) ∧ Aside0 (Kd.R k32 32 wc w.heap.size (fun k_ => some k_ ≠ (v461 : Value).ownBlock ∧ some k_ ≠ (v466 : Value).ownBlock) v456 t453) ∧ Aside0 (Kd.R k32 32 wc w.heap.size (fun k_ => some k_ ≠ (v456 : Value).ownBlock ∧ some k_ ≠ (v466 : Value).ownBlock) v461 t458) ∧ Aside0 (Kd.R k32 32 wc w.heap.size (fun k_ => some k_ ≠ (v456 : Value).ownBlock ∧ some k_ ≠ (v461 : Value).ownBlock) v466 t463) ∧ Aside0 (Below w.heap.size w wc))
      case first =>
       have H := HC13.out
       clear HC13
       by_cases c17 : t455 = 0
       ·rw [if_pos c17] at H
        have c17b0 : (t455 == 0) = true := beq_iff_eq.mpr c17
        have c17b1 : (t455 != 0) = false := bne_eq_false_iff_eq.mpr c17
        clear c17
        (first | rw [c17b0] | rw [c17b1] | (simp only [i64_w, i32_w]; rw [c17b0]) | skip)
        have H' := Aside0.mk H
        clear H
        go_wp2
        go_meet
        case rel => exact ⟨_, ((t460 != 0)), (by first | rfl | (simp; done) | (simp [*]; done) | (simp [i64_w, u8_w]; done) | (simp; simp only [isEmpty_bne]; done)), H', ⟨by have := HJ2.out; first | omega | exact Nat.le_refl _⟩, ⟨by exact Kd.R_up <| Kd.R_mono HO457.out (fun _ hk => ⟨hk.1.2, hk.2⟩)⟩, ⟨by exact Kd.R_up <| Kd.R_mono HO462.out (fun _ hk => ⟨hk.1.2, hk.2⟩)⟩, ⟨by exact Kd.R_up <| Kd.R_mono HO467.out (fun _ hk => ⟨hk.1.2, hk.2⟩)⟩, ⟨by first | exact ai | (with_reducible exact HB.out)⟩⟩
       ·rw [if_neg c17] at H
        have c17b0 : (t455 == 0) = false := beq_eq_false_iff_ne.mpr c17
        have c17b1 : (t455 != 0) = true := bne_iff_ne.mpr c17
        (first | rw [c17b0] | rw [c17b1] | (simp only [i64_w, i32_w]; rw [c17b0]) | skip)
        have H' := Aside0.mk H
        clear H
        go_wp2
        go_meet
        case rel => exact ⟨_, (true), (by first | rfl | (simp; done) | (simp [*]; done) | (simp [i64_w, u8_w]; done) | (simp; simp only [isEmpty_bne]; done)), H', ⟨by have := HJ2.out; first | omega | exact Nat.le_refl _⟩, ⟨by exact Kd.R_up <| Kd.R_mono HO457.out (fun _ hk => ⟨hk.1.2, hk.2⟩)⟩, ⟨by exact Kd.R_up <| Kd.R_mono HO462.out (fun _ hk => ⟨hk.1.2, hk.2⟩)⟩, ⟨by exact Kd.R_up <| Kd.R_mono HO467.out (fun _ hk => ⟨hk.1.2, hk.2⟩)⟩, ⟨by first | exact ai | (with_reducible exact HB.out)⟩⟩
      case rest =>
       clear HC13
       try clear c1
       try clear p2
       try clear c4
       try clear c4b0
       try clear c4b1
       try clear c5
       try clear c9
       try clear c10
       try clear c10b0
       try clear c10b1
       try clear c10b2
       try clear c11
       try clear c11b0
       try clear c11b1
       try clear c11b2
       try clear c12
       try clear c13
       try clear c17
       try clear c17b0
       try clear c17b1
       try clear p2
       obtain ⟨kq, x52_12, rfl, HA, HJ12, HO_5, HO_8, HO_11, HB⟩ := hcut
       cases kq with
       | zero => exact absurd HA.out (by simp [kindlinglaw07_LexJoins.j1])
       | succ kj12 =>
        have H := HA.out
        clear HA
        simp only [kindlinglaw07_LexJoins.j1] at H
        by_cases c18 : x52_12 = true
        ·subst c18
         have H1 : (if t455 = 0 then ((kindlinglaw07_known.f kj12).bind fun t468 => (some t468)) else (if (t453.length : Int) = 0 then ((kindlinglaw07_known.f kj12).bind fun t469 => (some t469)) else (some false))) = some r := by rw [if_pos rfl] at H; exact H
         clear H
         have H := H1
         clear H1
         by_cases c19 : t455 = 0
         ·rw [if_pos c19] at H
          have c19b0 : (t455 == 0) = true := beq_iff_eq.mpr c19
          have c19b1 : (t455 != 0) = false := bne_eq_false_iff_eq.mpr c19
          clear c19
          replace H := Option.bind_eq_some_iff.mp H
          obtain ⟨t468, A200, H⟩ := H
          replace H : (some t468) = some r := H
          have A20 := Aside0.mk A200
          clear A200
          obtain rfl := Option.some.inj H
          go_wp2_with (first | (go_at_call 12; (with_reducible refine (kindlinglaw07_known.calls kj12  t468 _ ?side1 ?side2 A20.out).mono ?_); (case side1 => exact Kd.C_up <| (Kd.C_below HRG0.out HB.out)); (case side2 => exact Kd.C_up <| (Kd.C_below HRG1.out HB.out)); rintro e w21 ⟨rfl, hb⟩; have n0_ := Aside0.mk (Kd.R_below (by exact Kd.R_up <| HO_5.out) hb); have n1_ := Aside0.mk (Kd.R_below (by exact Kd.R_up <| HO_8.out) hb); have n2_ := Aside0.mk (Kd.R_below (by exact Kd.R_up <| HO_11.out) hb); have n3_ := Aside0.mk (below_step (by first | exact ai | (with_reducible exact HB.out) : Below w.heap.size w _) hb); clear HO_5; clear HO_8; clear HO_11; clear HB; have HO_5 := n0_; have HO_8 := n1_; have HO_11 := n2_; have HB := n3_; clear n0_ n1_ n2_ n3_; (try clear hb); (try clear hb2); (try clear hk); (try clear hi)))
          go_ret
          exact ⟨by first | rfl | (simp [errW_none, errW_some] <;> rfl) | (simp [*, errW_none, errW_some] <;> rfl), by first | exact ai | (with_reducible exact HB.out)⟩
         ·rw [if_neg c19] at H
          have c19b0 : (t455 == 0) = false := beq_eq_false_iff_ne.mpr c19
          have c19b1 : (t455 != 0) = true := bne_iff_ne.mpr c19
          by_cases c22 : (t453.length : Int) = 0
          ·rw [if_pos c22] at H
           have c22b0 : ((t453.length : Int) == 0) = true := beq_iff_eq.mpr c22
           have c22b1 : ((t453.length : Int) != 0) = false := bne_eq_false_iff_eq.mpr c22
           clear c22
           replace H := Option.bind_eq_some_iff.mp H
           obtain ⟨t469, A230, H⟩ := H
           replace H : (some t469) = some r := H
           have A23 := Aside0.mk A230
           clear A230
           obtain rfl := Option.some.inj H
           obtain ⟨Ao24, co24, eo24⟩ := Kd.R_slice HO_5.out
           subst eo24
           go_wp2_with (first | (go_at_call 12; (with_reducible refine (kindlinglaw07_known.calls kj12  t469 _ ?side1 ?side2 A23.out).mono ?_); (case side1 => exact Kd.C_up <| (Kd.C_below HRG0.out HB.out)); (case side2 => exact Kd.C_up <| (Kd.C_below HRG1.out HB.out)); rintro e w25 ⟨rfl, hb⟩; have n0_ := Aside0.mk (Kd.R_below (by exact Kd.R_up <| HO_5.out) hb); have n1_ := Aside0.mk (Kd.R_below (by exact Kd.R_up <| HO_8.out) hb); have n2_ := Aside0.mk (Kd.R_below (by exact Kd.R_up <| HO_11.out) hb); have n3_ := Aside0.mk (below_step (by first | exact ai | (with_reducible exact HB.out) : Below w.heap.size w _) hb); clear HO_5; clear HO_8; clear HO_11; clear HB; have HO_5 := n0_; have HO_8 := n1_; have HO_11 := n2_; have HB := n3_; clear n0_ n1_ n2_ n3_; (try clear hb); (try clear hb2); (try clear hk); (try clear hi)))
           go_ret
           exact ⟨by first | rfl | (simp [errW_none, errW_some] <;> rfl) | (simp [*, errW_none, errW_some] <;> rfl), by first | exact ai | (with_reducible exact HB.out)⟩
          ·rw [if_neg c22] at H
           exact absurd (H.trans (congrArg some hr)) (by simp)
        ·replace c18 := Bool.eq_false_iff.mpr c18
         subst c18
         have H1 : (if (t453.length : Int) = 0 then (kindlinglaw07_LexJoins.j2 kj12 a0 t453 t458 t463 t465 true) else (kindlinglaw07_LexJoins.j2 kj12 a0 t453 t458 t463 t465 ((t458.length : Int) == 0))) = some r := by rw [if_neg (show ¬ (false = true) by decide)] at H; exact H
         clear H
         have H := H1
         clear H1
         have HC27 := Aside0.mk H
         clear H
         go_upto_region 8 with (fail)
         go_cut [70] (fun v70 wc => ∃ (kq : Nat) (x70_26 : Bool), v70 = .bool x70_26 ∧ Aside0 (kindlinglaw07_LexJoins.j2 kq a0 t453 t458 t463 t465 x70_26 = some r) ∧ Aside0 (kq ≤ kj12) ∧ Aside0 (Kd.R k32 32 wc w.heap.size (fun k_ => some k_ ≠ (v461 : Value).ownBlock ∧ some k_ ≠ (v466 : Value).ownBlock) v456 t453) ∧ Aside0 (Kd.R k32 32 wc w.heap.size (fun k_ => some k_ ≠ (v456 : Value).ownBlock ∧ some k_ ≠ (v466 : Value).ownBlock) v461 t458) ∧ Aside0 (Kd.R k32 32 wc w.heap.size (fun k_ => some k_ ≠ (v456 : Value).ownBlock ∧ some k_ ≠ (v461 : Value).ownBlock) v466 t463) ∧ Aside0 (Below w.heap.size w wc))
         case first =>
          have H := HC27.out
          clear HC27
          by_cases c28 : (t453.length : Int) = 0
          ·rw [if_pos c28] at H
           have c28b0 : ((t453.length : Int) == 0) = true := beq_iff_eq.mpr c28
           have c28b1 : ((t453.length : Int) != 0) = false := bne_eq_false_iff_eq.mpr c28
           clear c28
           (first | rw [c28b0] | rw [c28b1] | (simp only [i64_w, i32_w]; rw [c28b0]) | skip)
           have H' := Aside0.mk H
           clear H
           obtain ⟨Ao29, co29, eo29⟩ := Kd.R_slice HO_5.out
           subst eo29
           go_wp2
           go_meet
           case rel => exact ⟨_, (true), (by first | rfl | (simp; done) | (simp [*]; done) | (simp [i64_w, u8_w]; done) | (simp; simp only [isEmpty_bne]; done)), H', ⟨by have := HJ2.out; have := HJ12.out; first | omega | exact Nat.le_refl _⟩, ⟨by exact Kd.R_up <| HO_5.out⟩, ⟨by exact Kd.R_up <| HO_8.out⟩, ⟨by exact Kd.R_up <| HO_11.out⟩, ⟨by first | exact ai | (with_reducible exact HB.out)⟩⟩
          ·rw [if_neg c28] at H
           have c28b0 : ((t453.length : Int) == 0) = false := beq_eq_false_iff_ne.mpr c28
           have c28b1 : ((t453.length : Int) != 0) = true := bne_iff_ne.mpr c28
           have c28b2 : ¬ (t453 = []) := fun h_ => c28 (by rw [h_]; rfl)
           (first | rw [c28b0] | rw [c28b1] | (simp only [i64_w, i32_w]; rw [c28b0]) | skip)
           have H' := Aside0.mk H
           clear H
           obtain ⟨Ao30, co30, eo30⟩ := Kd.R_slice HO_5.out
           subst eo30
           obtain ⟨Ao31, co31, eo31⟩ := Kd.R_slice HO_8.out
           subst eo31
           go_wp2
           go_meet
           case rel => exact ⟨_, (((t458.length : Int) == 0)), (by first | rfl | (simp; done) | (simp [*]; done) | (simp [i64_w, u8_w]; done) | (simp; simp only [isEmpty_bne]; done)), H', ⟨by have := HJ2.out; have := HJ12.out; first | omega | exact Nat.le_refl _⟩, ⟨by exact Kd.R_up <| HO_5.out⟩, ⟨by exact Kd.R_up <| HO_8.out⟩, ⟨by exact Kd.R_up <| HO_11.out⟩, ⟨by first | exact ai | (with_reducible exact HB.out)⟩⟩
         case rest =>
          clear HC27
          try clear c1
          try clear c2
          try clear p2
          try clear c4
          try clear c4b0
          try clear c4b1
          try clear c5
          try clear c9
          try clear c10
          try clear c10b0
          try clear c10b1
          try clear c10b2
          try clear c11
          try clear c11b0
          try clear c11b1
          try clear c11b2
          try clear c12
          try clear c13
          try clear c17
          try clear c17b0
          try clear c17b1
          try clear c18
          try clear c19
          try clear c19b0
          try clear c19b1
          try clear c22
          try clear c22b0
          try clear c22b1
          try clear c22b2
          try clear c28
          try clear c28b0
          try clear c28b1
          try clear c28b2
          try clear p2
          obtain ⟨kq, x70_26, rfl, HA, HJ26, HO_5, HO_8, HO_11, HB⟩ := hcut
          cases kq with
          | zero => exact absurd HA.out (by simp [kindlinglaw07_LexJoins.j2])
          | succ kj26 =>
           have H := HA.out
           clear HA
           simp only [kindlinglaw07_LexJoins.j2] at H
           by_cases c32 : x70_26 = true
           ·subst c32
            have H1 : (some false) = some r := by rw [if_pos rfl] at H; exact H
            exact absurd (H1.trans (congrArg some hr)) (by simp)
           ·replace c32 := Bool.eq_false_iff.mpr c32
            subst c32
            have H1 : (if (wrap64 ((wrap64 ((t453.length : Int) + (t458.length : Int))) - 2)) > 1000 then (if t465 = 3 then ((kindlinglaw07_known.f kj26).bind fun t470 => (some t470)) else (some false)) else (if 0 ≤ (wrap64 ((t453.length : Int) - 1)) then (if (wrap64 ((t453.length : Int) - 1)) ≤ (t453.length : Int) then ((some (t453.take ((wrap64 ((t453.length : Int) - 1)) : Int).toNat : List (S32))).bind fun y471 => (if ([] : List (S32)).length + y471.length < 3518437208883 then (kindlinglaw07_LexJoins.l0 kj26 a0 t458 t463 t465 (([] : List (S32)) ++ y471) 0) else (none))) else (none)) else (none))) = some r := by rw [if_neg (show ¬ (false = true) by decide)] at H; exact H
            clear H
            have H := H1
            clear H1
            by_cases c33 : (wrap64 ((wrap64 ((t453.length : Int) + (t458.length : Int))) - 2)) > 1000
            ·rw [if_pos c33] at H
             have c33b0 : decide (1000 < (wrap64 ((wrap64 ((t453.length : Int) + (t458.length : Int))) - 2))) = true := decide_eq_true c33
             clear c33
             by_cases c34 : t465 = 3
             ·rw [if_pos c34] at H
              have c34b0 : (t465 == 3) = true := beq_iff_eq.mpr c34
              have c34b1 : (t465 != 3) = false := bne_eq_false_iff_eq.mpr c34
              clear c34
              replace H := Option.bind_eq_some_iff.mp H
              obtain ⟨t470, A350, H⟩ := H
              replace H : (some t470) = some r := H
              have A35 := Aside0.mk A350
              clear A350
              obtain rfl := Option.some.inj H
              obtain ⟨Ao36, co36, eo36⟩ := Kd.R_slice HO_5.out
              subst eo36
              obtain ⟨Ao37, co37, eo37⟩ := Kd.R_slice HO_8.out
              subst eo37
              go_wp2_with (first | (go_at_call 12; (with_reducible refine (kindlinglaw07_known.calls kj26  t470 _ ?side1 ?side2 A35.out).mono ?_); (case side1 => exact Kd.C_up <| (Kd.C_below HRG0.out HB.out)); (case side2 => exact Kd.C_up <| (Kd.C_below HRG1.out HB.out)); rintro e w38 ⟨rfl, hb⟩; have n0_ := Aside0.mk (Kd.R_below (by exact Kd.R_up <| HO_5.out) hb); have n1_ := Aside0.mk (Kd.R_below (by exact Kd.R_up <| HO_8.out) hb); have n2_ := Aside0.mk (Kd.R_below (by exact Kd.R_up <| HO_11.out) hb); have n3_ := Aside0.mk (below_step (by first | exact ai | (with_reducible exact HB.out) : Below w.heap.size w _) hb); clear HO_5; clear HO_8; clear HO_11; clear HB; have HO_5 := n0_; have HO_8 := n1_; have HO_11 := n2_; have HB := n3_; clear n0_ n1_ n2_ n3_; (try clear hb); (try clear hb2); (try clear hk); (try clear hi)))
              go_ret
              exact ⟨by first | rfl | (simp [errW_none, errW_some] <;> rfl) | (simp [*, errW_none, errW_some] <;> rfl), by first | exact ai | (with_reducible exact HB.out)⟩
             ·rw [if_neg c34] at H
              exact absurd (H.trans (congrArg some hr)) (by simp)
            ·rw [if_neg c33] at H
             have c33b0 : decide (1000 < (wrap64 ((wrap64 ((t453.length : Int) + (t458.length : Int))) - 2))) = false := decide_eq_false c33
             clear c33
             obtain ⟨ji41, hji41⟩ : ∃ j_ : Int, (wrap64 ((t453.length : Int) - 1)) = j_ := ⟨_, rfl⟩
             replace H : (if 0 ≤ (ji41) then (if (ji41) ≤ (t453.length : Int) then ((some (t453.take ((ji41) : Int).toNat : List (S32))).bind fun y471 => (if ([] : List (S32)).length + y471.length < 3518437208883 then (kindlinglaw07_LexJoins.l0 kj26 a0 t458 t463 t465 (([] : List (S32)) ++ y471) 0) else (none))) else (none)) else (none)) = some r := by first | (rw [hji41] at H; exact H) | (simp only [hji41] at H ⊢; exact H)
             have hji41w : (IntKind.i64.wrap ((t453.length : Int) - 1)) = ji41 := (i64_w _).trans hji41
             by_cases c42 : 0 ≤ (ji41)
             ·rw [if_pos c42] at H
              have c42b0 := eq_true c42
              have c42b1 : decide (0 ≤ (ji41)) = true := decide_eq_true c42
              clear c42
              by_cases c43 : (ji41) ≤ (t453.length : Int)
              ·rw [if_pos c43] at H
               have c43b0 := eq_true c43
               have c43b1 : decide ((ji41) ≤ (t453.length : Int)) = true := decide_eq_true c43
               clear c43
               obtain ⟨y471, hy471⟩ : ∃ y_ : List (S32), y_ = (t453.take ((ji41) : Int).toNat) := ⟨_, rfl⟩
               replace H : (if ([] : List (S32)).length + y471.length < 3518437208883 then (kindlinglaw07_LexJoins.l0 kj26 a0 t458 t463 t465 (([] : List (S32)) ++ y471) 0) else (none)) = some r := by first | (rw [hy471]; with_reducible exact H) | (have H2_ := (Option.bind_some _ _).symm.trans H; rw [hy471]; with_reducible exact H2_) | (have H2_ := (Option.bind_some _ _).symm.trans H; with_reducible exact H2_) | with_reducible exact H | (rw [hy471]; exact H) | exact H
               have Ny471 := Aside0.mk hy471
               clear hy471
               by_cases c44 : ([] : List (S32)).length + y471.length < 3518437208883
               ·rw [if_pos c44] at H
                have LMc44 := Aside0.mk c44
                clear c44
                obtain ⟨y475, hy475⟩ : ∃ y_ : List (S32), y_ = (([] : List (S32)) ++ y471) := ⟨_, rfl⟩
                replace H : (kindlinglaw07_LexJoins.l0 kj26 a0 t458 t463 t465 y475 0) = some r := by first | (rw [hy475]; with_reducible exact H) | (have H2_ := (Option.bind_some _ _).symm.trans H; rw [hy475]; with_reducible exact H2_) | (have H2_ := (Option.bind_some _ _).symm.trans H; with_reducible exact H2_) | with_reducible exact H | (rw [hy475]; exact H) | exact H
                have Ny475 := Aside0.mk hy475
                clear hy475
                have H' := Aside0.mk H
                clear H
                obtain ⟨Ao45, co45, eo45⟩ := Kd.R_slice HO_5.out
                subst eo45
                obtain ⟨Ao46, co46, eo46⟩ := Kd.R_slice HO_8.out
                subst eo46
                have q47 : ((ji41) : Int) ≤ ((t453.length : Int) : Int) := of_decide_eq_true (by first | (with_reducible assumption) | assumption)
                obtain ⟨i047, hi047, _, hsz47, _⟩ := info_parts info32
                have hroom47 : t453.length ≤ co45 := (Kd.R_reads' HO_5.out).2.1
                have hC47 : Kd.C k32 _ Ao45 t453.length t453 := (Kd.R_reads' HO_5.out).2.2
                have hcut47 := cut_to (P := Tryd.prog) 24 32 .i64 Tryd.underlying24 hi047 Ao45 t453.length co45 (ji41) (of_decide_eq_true (by first | (with_reducible assumption) | assumption)) q47 hroom47
                have hr47 := Kd.C_take (m := ((ji41) : Int).toNat) hC47 (by omega)
                have hy47 : y471.length = ((ji41) : Int).toNat := (by rw [Ny471.out, List.length_take]; omega)
                rw [← Ny471.out] at hr47
                rw [← hy47] at hcut47
                have HR474 := Aside0.mk hr47
                have HC474 := Aside0.mk (show y471.length ≤ co45 from by omega)
                clear hr47 hC47 hroom47 hi047 hsz47
                have KY47 := Aside0.mk hy47
                clear hy47
                have KL47 := Aside0.mk (show ((ji41) : Int).toNat ≤ t453.length from by omega)
                replace q47 := eq_true q47
                go_wp2_with (first | ((with_reducible refine gate_builtin (b := .append) (xs := #[.tmp 83, .tmp 88]) rfl ?_); (try (refine gate_guard (by rfl) ?_; dsimp only)); at_builtin; refine Kd.R_append_rows k32 (w0 := w) w.heap.size rfl (.tmp 83) (.tmp 88) 24 32 (.agg #[(.int .i64 0), (.string ⟨#[]⟩), (.int .i64 0), (.int .i64 0)]) 40 rfl Tryd.underlying24 info32 rfl (by decide) (by omega) (.slice none 0 0) ([] : List (S32)) y471 _ _ _ (fun k_ => some k_ ≠ (.slice Ao45 t453.length co45 : Value).ownBlock ∧ some k_ ≠ (.slice Ao46 t458.length co46 : Value).ownBlock ∧ some k_ ≠ (v466 : Value).ownBlock) (fun _ => False) rfl rfl ?aO ?aR (fun _ _ h => h) (fun _ h => h.elim) ?aF ?aB ?aS ?aL ?_; (case aR => repeat (first | exact (by repeat (first | (with_reducible exact HR474.out) | (with_reducible refine Kd.C_alloc ?_ _) | (with_reducible refine Kd.C_drewN ?_ _) | (with_reducible refine Kd.C_drew ?_) | exact HR474.out)) | (with_reducible refine Kd.C_alloc ?_ _) | (with_reducible refine Kd.C_drewN ?_ _) | (with_reducible refine Kd.C_drew ?_))); (case aB => exact (by first | exact ai | (with_reducible exact HB.out))); (case aF => exact (fun k_ hk => ⟨Kd.fresh' (Kd.R_lt (by exact Kd.R_up <| HO_5.out)) k_ hk, Kd.fresh' (Kd.R_lt (by exact Kd.R_up <| HO_8.out)) k_ hk, Kd.fresh' (Kd.R_lt (by exact Kd.R_up <| HO_11.out)) k_ hk⟩)); (case aO => exact ((Kd.R_nil _ _ _ _ (fun k_ => some k_ ≠ (.slice Ao45 t453.length co45 : Value).ownBlock ∧ some k_ ≠ (.slice Ao46 t458.length co46 : Value).ownBlock ∧ some k_ ≠ (v466 : Value).ownBlock)))); (case aS => exact (below_size (by first | exact ai | (with_reducible exact HB.out) : Below w.heap.size w _))); (case aL => have := LMc44.out; omega); intro v476 w48 ho hb hg hat; rw [← Ny475.out] at ho; have n0_ := Aside0.mk (Kd.R_after (Kd.R_apart_nil (by exact Kd.R_up <| HO_5.out)) hg hat); have n1_ := Aside0.mk (Kd.R_after (Kd.R_apart_nil (by exact Kd.R_up <| HO_8.out)) hg hat); have n2_ := Aside0.mk (Kd.R_after (Kd.R_apart_nil (by exact Kd.R_up <| HO_11.out)) hg hat); have n3_ := Aside0.mk (hb); have n4_ := Aside0.mk ((show Kd.C k32 w48 Ao45 y471.length y471 from by rw [Ny471.out]; exact Kd.C_take (m := ((ji41) : Int).toNat) ((Kd.R_reads' (Kd.R_after (Kd.R_apart_nil (by exact Kd.R_up <| HO_5.out)) hg hat)).2.2) KL47.out)); have n5_ := Aside0.mk (ho); clear HO_5; clear HO_8; clear HO_11; clear HB; clear HR474; have HO_5 := n0_; have HO_8 := n1_; have HO_11 := n2_; have HB := n3_; have HR474 := n4_; have HO477 := n5_; clear n0_ n1_ n2_ n3_ n4_ n5_; clear ho hb hg hat))
                go_loopg [14, 15] kj26 (fun kq v14 v15 w' => ∃ (x14_4 : List (S32)) (x15_4 : Int), v15 = .int .i64 x15_4 ∧ Aside0 (kindlinglaw07_LexJoins.l0 kq a0 t458 t463 t465 x14_4 x15_4 = some r) ∧ Aside0 (kq ≤ kj26) ∧ Aside0 (Kd.R k32 32 w' w.heap.size (fun k_ => some k_ ≠ (v466 : Value).ownBlock ∧ some k_ ≠ (v14 : Value).ownBlock) (.slice Ao46 t458.length co46) t458) ∧ Aside0 (Kd.R k32 32 w' w.heap.size (fun k_ => some k_ ≠ ((.slice Ao46 t458.length co46) : Value).ownBlock ∧ some k_ ≠ (v14 : Value).ownBlock) v466 t463) ∧ Aside0 (Kd.R k32 32 w' w.heap.size (fun k_ => some k_ ≠ ((.slice Ao46 t458.length co46) : Value).ownBlock ∧ some k_ ≠ (v466 : Value).ownBlock) v14 x14_4) ∧ Aside0 (Below w.heap.size w w'))
                case atStart => exact ⟨(y475), (0), (by first | rfl | (simp; done) | (simp [*]; done) | (simp [i64_w, u8_w]; done) | (simp; simp only [isEmpty_bne]; done)), H', ⟨Nat.le_refl _⟩, ⟨by exact Kd.R_up <| Kd.R_mono HO_8.out (fun _ hk => ⟨hk.1.2, hk.2⟩)⟩, ⟨by exact Kd.R_up <| Kd.R_mono HO_11.out (fun _ hk => ⟨hk.1.2, hk.2⟩)⟩, ⟨by exact Kd.R_up <| Kd.R_mono HO477.out (fun _ hk => ⟨hk.2.1, hk.2.2⟩)⟩, ⟨by first | exact ai | (with_reducible exact HB.out)⟩⟩
                case round =>
                 clear H'
                 try clear c1
                 try clear c2
                 try clear p2
                 try clear c3
                 try clear c4
                 try clear c4b0
                 try clear c4b1
                 try clear q4
                 try clear c5
                 try clear p6
                 try clear c9
                 try clear c10
                 try clear c10b0
                 try clear c10b1
                 try clear c10b2
                 try clear c11
                 try clear c11b0
                 try clear c11b1
                 try clear c11b2
                 try clear c12
                 try clear c13
                 try clear c17
                 try clear c17b0
                 try clear c17b1
                 try clear c18
                 try clear c19
                 try clear c19b0
                 try clear c19b1
                 try clear c22
                 try clear c22b0
                 try clear c22b1
                 try clear c22b2
                 try clear c28
                 try clear c28b0
                 try clear c28b1
                 try clear c28b2
                 try clear c32
                 try clear c33
                 try clear c33b0
                 try clear c34
                 try clear c34b0
                 try clear c34b1
                 try clear c42
                 try clear c42b0
                 try clear c42b1
                 try clear c43
                 try clear c43b0
                 try clear c43b1
                 try clear c44
                 try clear q47
                 try clear p2
                 try clear q47
                 obtain ⟨x14_4, x15_4, rfl, HA, HK4, HO_8, HO_11, HO_14, HB⟩ := hrel
                 cases gk with
                 | zero => exact absurd HA.out (by simp [kindlinglaw07_LexJoins.l0])
                 | succ k4 =>
                  have H := HA.out
                  clear HA
                  simp only [kindlinglaw07_LexJoins.l0] at H
                  by_cases c49 : x15_4 < (t458.length : Int)
                  ·rw [if_pos c49] at H
                   have c49b0 : decide (x15_4 < (t458.length : Int)) = true := decide_eq_true c49
                   clear c49
                   by_cases c50 : 0 ≤ x15_4
                   ·rw [if_pos c50] at H
                    have c50b0 : decide (0 ≤ x15_4) = true := decide_eq_true c50
                    clear c50
                    by_cases c51 : x14_4.length < 3518437208883
                    ·rw [if_pos c51] at H
                     have LMc51 := Aside0.mk c51
                     clear c51
                     obtain ⟨y480, hy480⟩ : ∃ y_ : List (S32), y_ = (x14_4 ++ [(⟨(rd_T32 t458 x15_4).f0, (rd_T32 t458 x15_4).f1, (rd_T32 t458 x15_4).f2, wrap64 ((wrap64 (((rd_T32 t458 x15_4).f3) + (a0.size : Int))) + 1)⟩ : S32)]) := ⟨_, rfl⟩
                     replace H : (kindlinglaw07_LexJoins.l0 k4 a0 t458 t463 t465 y480 (wrap64 (x15_4 + 1))) = some r := by first | (rw [hy480]; with_reducible exact H) | (have H2_ := (Option.bind_some _ _).symm.trans H; rw [hy480]; with_reducible exact H2_) | (have H2_ := (Option.bind_some _ _).symm.trans H; with_reducible exact H2_) | with_reducible exact H | (rw [hy480]; exact H) | exact H
                     have Ny480 := Aside0.mk hy480
                     clear hy480
                     have H' := Aside0.mk H
                     clear H
                     have p478 : 0 ≤ (x15_4 : Int) := of_decide_eq_true (by first | (with_reducible assumption) | assumption)
                     have q478 : x15_4 < (t458.length : Int) := of_decide_eq_true (by first | (with_reducible assumption) | assumption)
                     obtain ⟨ad478, e478, hx478_0, hx478_1, hx478_2, hx478_3⟩ := at_T32 (Kd.R_reads' HO_8.out).2.2 x15_4 p478 q478
                     cases e478
                     replace p478 := eq_true p478
                     replace q478 := eq_true q478
                     go_wp2_with (first | ((with_reducible refine gate_dst (N := 16) rfl ?_); (try (refine gate_guard (by rfl) ?_; dsimp only)); refine box_event ?hg (N := 16) ?hd (cs := #[.int .i64 0, .string (⟨#[]⟩ : ByteArray), .int .i64 0, .int .i64 0]) (t := 32) ?hr ?_; (case hd => rfl); (case hg => rfl); (case hr => first | (go_simp; done) | (go_simp; rfl)); intro gb479 hg w52 hbox hb; have n0_ := Aside0.mk (Kd.R_below (Kd.R_elderB (by exact Kd.R_up <| HO_8.out) gb479 (Nat.le_of_eq hg.symm)) hb); have n1_ := Aside0.mk (Kd.R_below (Kd.R_elderB (by exact Kd.R_up <| HO_11.out) gb479 (Nat.le_of_eq hg.symm)) hb); have n2_ := Aside0.mk (Kd.R_below (Kd.R_elderB (by exact Kd.R_up <| HO_14.out) gb479 (Nat.le_of_eq hg.symm)) hb); have n3_ := Aside0.mk (below_step (by first | exact ai | (with_reducible exact HB.out) : Below w.heap.size w _) hb); have n4_ := Aside0.mk (hbox); have n5_ := Aside0.mk ((by rw [hg]; exact (below_size (by first | exact ai | (with_reducible exact HB.out) : Below w.heap.size w _)) : w.heap.size ≤ gb479)); have n6_ := Aside0.mk ((by rw [hg]; exact (below_size (by first | exact ai | (with_reducible exact HB.out) : Below w.heap.size w _)) : w.heap.size ≤ gb479)); clear HO_8; clear HO_11; clear HO_14; clear HB; have HO_8 := n0_; have HO_11 := n1_; have HO_14 := n2_; have HB := n3_; have BK479 := n4_; have GW479 := n5_; have GE479 := n6_; clear n0_ n1_ n2_ n3_ n4_ n5_ n6_; clear hb hbox hg; have hcz53_0 : w52.cell? ⟨gb479, 0, none⟩ = some (.int .i64 0) := (blk_cell BK479.out 0).trans rfl; have hcz53_1 : w52.cell? ⟨gb479, 1, none⟩ = some (.string (⟨#[]⟩ : ByteArray)) := (blk_cell BK479.out 1).trans rfl; have hcz53_2 : w52.cell? ⟨gb479, 2, none⟩ = some (.int .i64 0) := (blk_cell BK479.out 2).trans rfl; have hcz53_3 : w52.cell? ⟨gb479, 3, none⟩ = some (.int .i64 0) := (blk_cell BK479.out 3).trans rfl; have hfz53_0 := blk_frozen BK479.out 0; have hfz53_1 := blk_frozen BK479.out 1; have hfz53_2 := blk_frozen BK479.out 2; have hfz53_3 := blk_frozen BK479.out 3) | ((with_reducible refine gate_builtin (b := .append) (xs := #[.tmp 107, .tmp 109]) rfl ?_); (try (refine gate_guard (by rfl) ?_; dsimp only)); at_builtin; refine Kd.R_append k32 (w0 := w) w.heap.size rfl (.tmp 107) (.tmp 109) 24 32 (.agg #[(.int .i64 0), (.string ⟨#[]⟩), (.int .i64 0), (.int .i64 0)]) 40 rfl Tryd.underlying24 info32 rfl (by decide) (by omega) u14 x14_4 (⟨(rd_T32 t458 x15_4).f0, (rd_T32 t458 x15_4).f1, (rd_T32 t458 x15_4).f2, wrap64 ((wrap64 (((rd_T32 t458 x15_4).f3) + (a0.size : Int))) + 1)⟩ : S32) [.int .i64 ((rd_T32 t458 x15_4).f0), .string ((rd_T32 t458 x15_4).f1), .int .i64 ((rd_T32 t458 x15_4).f2), .int .i64 (wrap64 ((wrap64 (((rd_T32 t458 x15_4).f3) + (a0.size : Int))) + 1))] (fun k_ => some k_ ≠ (.slice (some ad478) t458.length co46 : Value).ownBlock ∧ some k_ ≠ (v466 : Value).ownBlock ∧ k_ ≠ gb479) (fun _ => False) rfl (by first | (go_simp; done) | (go_simp; rfl)) ?aP (fun _ hk => hk.elim) ?aF ?aO ?aB ?aS ?aL ?_; (case aP => exact k32_mkM _ _ _ (⟨(rd_T32 t458 x15_4).f0, (rd_T32 t458 x15_4).f1, (rd_T32 t458 x15_4).f2, wrap64 ((wrap64 (((rd_T32 t458 x15_4).f3) + (a0.size : Int))) + 1)⟩ : S32)); (case aB => exact (by first | exact ai | (with_reducible exact HB.out))); (case aF => exact (fun k_ hk => ⟨Kd.fresh' (Kd.R_lt (by exact Kd.R_up <| (Kd.R_mono (Kd.R_far (p := ⟨gb479, 3, none⟩) (Kd.R_far (p := ⟨gb479, 3, none⟩) (Kd.R_far (p := ⟨gb479, 2, none⟩) (Kd.R_far (p := ⟨gb479, 1, none⟩) (Kd.R_far (p := ⟨gb479, 0, none⟩) (Kd.R_mono HO_8.out (fun k_ hk => (⟨hk, hk.2⟩ : _ ∧ k_ ≠ gb479))) (fun _ hk => hk.2) (.int .i64 ((rd_T32 t458 x15_4).f0))) (fun _ hk => hk.2) (.string ((rd_T32 t458 x15_4).f1))) (fun _ hk => hk.2) (.int .i64 ((rd_T32 t458 x15_4).f2))) (fun _ hk => hk.2) (.int .i64 ((rd_T32 t458 x15_4).f3))) (fun _ hk => hk.2) (.int .i64 (wrap64 ((wrap64 (((rd_T32 t458 x15_4).f3) + (a0.size : Int))) + 1)))) (fun _ h_ => h_.1)))) k_ hk, Kd.fresh' (Kd.R_lt (by exact Kd.R_up <| (Kd.R_mono (Kd.R_far (p := ⟨gb479, 3, none⟩) (Kd.R_far (p := ⟨gb479, 3, none⟩) (Kd.R_far (p := ⟨gb479, 2, none⟩) (Kd.R_far (p := ⟨gb479, 1, none⟩) (Kd.R_far (p := ⟨gb479, 0, none⟩) (Kd.R_mono HO_11.out (fun k_ hk => (⟨hk, hk.2⟩ : _ ∧ k_ ≠ gb479))) (fun _ hk => hk.2) (.int .i64 ((rd_T32 t458 x15_4).f0))) (fun _ hk => hk.2) (.string ((rd_T32 t458 x15_4).f1))) (fun _ hk => hk.2) (.int .i64 ((rd_T32 t458 x15_4).f2))) (fun _ hk => hk.2) (.int .i64 ((rd_T32 t458 x15_4).f3))) (fun _ hk => hk.2) (.int .i64 (wrap64 ((wrap64 (((rd_T32 t458 x15_4).f3) + (a0.size : Int))) + 1)))) (fun _ h_ => h_.1)))) k_ hk, Kd.freshB (g := gb479) (o := .cells #[.int .i64 ((rd_T32 t458 x15_4).f0), .string ((rd_T32 t458 x15_4).f1), .int .i64 ((rd_T32 t458 x15_4).f2), .int .i64 (wrap64 ((wrap64 (((rd_T32 t458 x15_4).f3) + (a0.size : Int))) + 1))] 32 (0, 0)) (by (with_reducible repeat (first | refine blk_drewN ?_ _ | refine blk_drew ?_ | refine blk_alloc ?_ _)); refine blk_put (cs := #[.int .i64 ((rd_T32 t458 x15_4).f0), .string ((rd_T32 t458 x15_4).f1), .int .i64 ((rd_T32 t458 x15_4).f2), .int .i64 ((rd_T32 t458 x15_4).f3)]) ?_ 3 _ rfl; (with_reducible repeat (first | refine blk_drewN ?_ _ | refine blk_drew ?_ | refine blk_alloc ?_ _)); refine blk_put (cs := #[.int .i64 ((rd_T32 t458 x15_4).f0), .string ((rd_T32 t458 x15_4).f1), .int .i64 ((rd_T32 t458 x15_4).f2), .int .i64 0]) ?_ 3 _ rfl; (with_reducible repeat (first | refine blk_drewN ?_ _ | refine blk_drew ?_ | refine blk_alloc ?_ _)); refine blk_put (cs := #[.int .i64 ((rd_T32 t458 x15_4).f0), .string ((rd_T32 t458 x15_4).f1), .int .i64 0, .int .i64 0]) ?_ 2 _ rfl; (with_reducible repeat (first | refine blk_drewN ?_ _ | refine blk_drew ?_ | refine blk_alloc ?_ _)); refine blk_put (cs := #[.int .i64 ((rd_T32 t458 x15_4).f0), .string (⟨#[]⟩ : ByteArray), .int .i64 0, .int .i64 0]) ?_ 1 _ rfl; (with_reducible repeat (first | refine blk_drewN ?_ _ | refine blk_drew ?_ | refine blk_alloc ?_ _)); refine blk_put (cs := #[.int .i64 0, .string (⟨#[]⟩ : ByteArray), .int .i64 0, .int .i64 0]) ?_ 0 _ rfl; exact blk_up <| BK479.out) k_ hk⟩)); (case aO => exact (by exact Kd.R_up <| Kd.R_mono (Kd.R_far (p := ⟨gb479, 3, none⟩) (Kd.R_far (p := ⟨gb479, 3, none⟩) (Kd.R_far (p := ⟨gb479, 2, none⟩) (Kd.R_far (p := ⟨gb479, 1, none⟩) (Kd.R_far (p := ⟨gb479, 0, none⟩) (Kd.R_mono HO_14.out (fun k_ hk => (⟨hk, hk.2⟩ : _ ∧ k_ ≠ gb479))) (fun _ hk => hk.2) (.int .i64 ((rd_T32 t458 x15_4).f0))) (fun _ hk => hk.2) (.string ((rd_T32 t458 x15_4).f1))) (fun _ hk => hk.2) (.int .i64 ((rd_T32 t458 x15_4).f2))) (fun _ hk => hk.2) (.int .i64 ((rd_T32 t458 x15_4).f3))) (fun _ hk => hk.2) (.int .i64 (wrap64 ((wrap64 (((rd_T32 t458 x15_4).f3) + (a0.size : Int))) + 1)))) (fun _ hk => ⟨hk.1.1.1, ⟨hk.1.1.2, hk.1.2⟩⟩))); (case aS => exact (below_size (by first | exact ai | (with_reducible exact HB.out) : Below w.heap.size w _))); (case aL => have := LMc51.out; omega); intro v481 w54 ho hb hg hat; rw [← Ny480.out] at ho; have n0_ := Aside0.mk (Kd.R_after (ok := (fun k_ => some k_ ≠ (v466 : Value).ownBlock ∧ k_ ≠ gb479)) (by exact Kd.R_up <| Kd.R_mono (Kd.R_far (p := ⟨gb479, 3, none⟩) (Kd.R_far (p := ⟨gb479, 3, none⟩) (Kd.R_far (p := ⟨gb479, 2, none⟩) (Kd.R_far (p := ⟨gb479, 1, none⟩) (Kd.R_far (p := ⟨gb479, 0, none⟩) (Kd.R_mono HO_8.out (fun k_ hk => (⟨hk, hk.2⟩ : _ ∧ k_ ≠ gb479))) (fun _ hk => hk.2) (.int .i64 ((rd_T32 t458 x15_4).f0))) (fun _ hk => hk.2) (.string ((rd_T32 t458 x15_4).f1))) (fun _ hk => hk.2) (.int .i64 ((rd_T32 t458 x15_4).f2))) (fun _ hk => hk.2) (.int .i64 ((rd_T32 t458 x15_4).f3))) (fun _ hk => hk.2) (.int .i64 (wrap64 ((wrap64 (((rd_T32 t458 x15_4).f3) + (a0.size : Int))) + 1)))) (fun _ hk => ⟨⟨hk.1.1.1, hk.1.2⟩, hk.1.1.2⟩)) hg hat); have n1_ := Aside0.mk (Kd.R_after (ok := (fun k_ => some k_ ≠ (.slice (some ad478) t458.length co46 : Value).ownBlock ∧ k_ ≠ gb479)) (by exact Kd.R_up <| Kd.R_mono (Kd.R_far (p := ⟨gb479, 3, none⟩) (Kd.R_far (p := ⟨gb479, 3, none⟩) (Kd.R_far (p := ⟨gb479, 2, none⟩) (Kd.R_far (p := ⟨gb479, 1, none⟩) (Kd.R_far (p := ⟨gb479, 0, none⟩) (Kd.R_mono HO_11.out (fun k_ hk => (⟨hk, hk.2⟩ : _ ∧ k_ ≠ gb479))) (fun _ hk => hk.2) (.int .i64 ((rd_T32 t458 x15_4).f0))) (fun _ hk => hk.2) (.string ((rd_T32 t458 x15_4).f1))) (fun _ hk => hk.2) (.int .i64 ((rd_T32 t458 x15_4).f2))) (fun _ hk => hk.2) (.int .i64 ((rd_T32 t458 x15_4).f3))) (fun _ hk => hk.2) (.int .i64 (wrap64 ((wrap64 (((rd_T32 t458 x15_4).f3) + (a0.size : Int))) + 1)))) (fun _ hk => ⟨⟨hk.1.1.1, hk.1.2⟩, hk.1.1.2⟩)) hg hat); have n2_ := Aside0.mk (blk_grown (g := gb479) (o := .cells #[.int .i64 ((rd_T32 t458 x15_4).f0), .string ((rd_T32 t458 x15_4).f1), .int .i64 ((rd_T32 t458 x15_4).f2), .int .i64 (wrap64 ((wrap64 (((rd_T32 t458 x15_4).f3) + (a0.size : Int))) + 1))] 32 (0, 0)) (by (with_reducible repeat (first | refine blk_drewN ?_ _ | refine blk_drew ?_ | refine blk_alloc ?_ _)); refine blk_put (cs := #[.int .i64 ((rd_T32 t458 x15_4).f0), .string ((rd_T32 t458 x15_4).f1), .int .i64 ((rd_T32 t458 x15_4).f2), .int .i64 ((rd_T32 t458 x15_4).f3)]) ?_ 3 _ rfl; (with_reducible repeat (first | refine blk_drewN ?_ _ | refine blk_drew ?_ | refine blk_alloc ?_ _)); refine blk_put (cs := #[.int .i64 ((rd_T32 t458 x15_4).f0), .string ((rd_T32 t458 x15_4).f1), .int .i64 ((rd_T32 t458 x15_4).f2), .int .i64 0]) ?_ 3 _ rfl; (with_reducible repeat (first | refine blk_drewN ?_ _ | refine blk_drew ?_ | refine blk_alloc ?_ _)); refine blk_put (cs := #[.int .i64 ((rd_T32 t458 x15_4).f0), .string ((rd_T32 t458 x15_4).f1), .int .i64 0, .int .i64 0]) ?_ 2 _ rfl; (with_reducible repeat (first | refine blk_drewN ?_ _ | refine blk_drew ?_ | refine blk_alloc ?_ _)); refine blk_put (cs := #[.int .i64 ((rd_T32 t458 x15_4).f0), .string (⟨#[]⟩ : ByteArray), .int .i64 0, .int .i64 0]) ?_ 1 _ rfl; (with_reducible repeat (first | refine blk_drewN ?_ _ | refine blk_drew ?_ | refine blk_alloc ?_ _)); refine blk_put (cs := #[.int .i64 0, .string (⟨#[]⟩ : ByteArray), .int .i64 0, .int .i64 0]) ?_ 0 _ rfl; exact blk_up <| BK479.out) hg (Kd.R_away HO_14.out (fun _ hk => hk.2))); have n3_ := Aside0.mk (hb); have n4_ := Aside0.mk (ho); clear HO_8; clear HO_11; clear BK479; clear HB; clear HO_14; have HO_8 := n0_; have HO_11 := n1_; have BK479 := n2_; have HB := n3_; have HO482 := n4_; clear n0_ n1_ n2_ n3_ n4_; clear ho hb hg hat) | ((with_reducible refine gate_dst (N := 108) rfl ?_); refine wpList_load_row rfl 32 (.tmp 16) rfl gb479 rfl 32 #[.int .i64 ((rd_T32 t458 x15_4).f0), .string ((rd_T32 t458 x15_4).f1), .int .i64 ((rd_T32 t458 x15_4).f2), .int .i64 (wrap64 ((wrap64 (((rd_T32 t458 x15_4).f3) + (a0.size : Int))) + 1))] (0, 0) _ (by (with_reducible repeat (first | refine blk_drewN ?_ _ | refine blk_drew ?_ | refine blk_alloc ?_ _)); refine blk_put (cs := #[.int .i64 ((rd_T32 t458 x15_4).f0), .string ((rd_T32 t458 x15_4).f1), .int .i64 ((rd_T32 t458 x15_4).f2), .int .i64 ((rd_T32 t458 x15_4).f3)]) ?_ 3 _ rfl; (with_reducible repeat (first | refine blk_drewN ?_ _ | refine blk_drew ?_ | refine blk_alloc ?_ _)); refine blk_put (cs := #[.int .i64 ((rd_T32 t458 x15_4).f0), .string ((rd_T32 t458 x15_4).f1), .int .i64 ((rd_T32 t458 x15_4).f2), .int .i64 0]) ?_ 3 _ rfl; (with_reducible repeat (first | refine blk_drewN ?_ _ | refine blk_drew ?_ | refine blk_alloc ?_ _)); refine blk_put (cs := #[.int .i64 ((rd_T32 t458 x15_4).f0), .string ((rd_T32 t458 x15_4).f1), .int .i64 0, .int .i64 0]) ?_ 2 _ rfl; (with_reducible repeat (first | refine blk_drewN ?_ _ | refine blk_drew ?_ | refine blk_alloc ?_ _)); refine blk_put (cs := #[.int .i64 ((rd_T32 t458 x15_4).f0), .string (⟨#[]⟩ : ByteArray), .int .i64 0, .int .i64 0]) ?_ 1 _ rfl; (with_reducible repeat (first | refine blk_drewN ?_ _ | refine blk_drew ?_ | refine blk_alloc ?_ _)); refine blk_put (cs := #[.int .i64 0, .string (⟨#[]⟩ : ByteArray), .int .i64 0, .int .i64 0]) ?_ 0 _ rfl; exact blk_up <| BK479.out) Tryd.underlying32 rfl (by kernel_rfl) ?_))
                     go_roundg k4
                     case measure => have := HJ2.out; have := HJ12.out; have := HJ26.out; have := HK4.out; omega
                     case rel => exact ⟨(y480), (wrap64 (x15_4 + 1)), (by first | rfl | (simp; done) | (simp [*]; done) | (simp [i64_w, u8_w]; done) | (simp; simp only [isEmpty_bne]; done)), H', ⟨by have := HJ2.out; have := HJ12.out; have := HJ26.out; have := HK4.out; omega⟩, ⟨by exact Kd.R_up <| Kd.R_mono HO_8.out (fun _ hk => ⟨hk.1.1, hk.2⟩)⟩, ⟨by exact Kd.R_up <| Kd.R_mono HO_11.out (fun _ hk => ⟨hk.1.1, hk.2⟩)⟩, ⟨by exact Kd.R_up <| Kd.R_mono HO482.out (fun _ hk => ⟨hk.1, hk.2.1⟩)⟩, ⟨by first | exact ai | (with_reducible exact HB.out)⟩⟩
                    ·rw [if_neg c51] at H
                     exact absurd H (by simp)
                   ·rw [if_neg c50] at H
                    exact absurd H (by simp)
                  ·rw [if_neg c49] at H
                   have c49b0 : decide (x15_4 < (t458.length : Int)) = false := decide_eq_false c49
                   clear c49
                   by_cases c55 : t465 = 0
                   ·rw [if_pos c55] at H
                    have c55b0 : (t465 == 0) = true := beq_iff_eq.mpr c55
                    have c55b1 : (t465 != 0) = false := bne_eq_false_iff_eq.mpr c55
                    clear c55
                    replace H := Option.bind_eq_some_iff.mp H
                    obtain ⟨t483, A560, H⟩ := H
                    replace H : (if t483 = true then ((kindlinglaw07_known.f k4).bind fun t484 => (some t484)) else (some false)) = some r := H
                    have A56 := Aside0.mk A560
                    clear A560
                    by_cases c57 : t483 = true
                    ·subst c57
                     have H1 : ((kindlinglaw07_known.f k4).bind fun t484 => (some t484)) = some r := by rw [if_pos rfl] at H; exact H
                     clear H
                     have H := H1
                     clear H1
                     replace H := Option.bind_eq_some_iff.mp H
                     obtain ⟨t484, A580, H⟩ := H
                     replace H : (some t484) = some r := H
                     have A58 := Aside0.mk A580
                     clear A580
                     obtain rfl := Option.some.inj H
                     obtain ⟨Ao59, co59, eo59⟩ := Kd.R_slice HO_11.out
                     subst eo59
                     obtain ⟨Ao60, co60, eo60⟩ := Kd.R_slice HO_14.out
                     subst eo60
                     go_wp2_with (first | (go_at_call 15; (with_reducible refine (kindlingref07_Same.calls k4 _ _ t463 _ _ x14_4 true true _ ?side1 ?side2 ?side3 ?side4 A56.out).mono ?_); (case side1 => exact Kd.C_up <| (Kd.R_reads' HO_11.out).2.2); (case side2 => exact (Kd.R_reads' HO_11.out).2.1); (case side3 => exact Kd.C_up <| (Kd.R_reads' HO_14.out).2.2); (case side4 => exact (Kd.R_reads' HO_14.out).2.1); rintro e w61 ⟨rfl, hb⟩; have n0_ := Aside0.mk (Kd.R_below (by exact Kd.R_up <| HO_8.out) hb); have n1_ := Aside0.mk (Kd.R_below (by exact Kd.R_up <| HO_11.out) hb); have n2_ := Aside0.mk (Kd.R_below (by exact Kd.R_up <| HO_14.out) hb); have n3_ := Aside0.mk (below_step (by first | exact ai | (with_reducible exact HB.out) : Below w.heap.size w _) hb); clear HO_8; clear HO_11; clear HO_14; clear HB; have HO_8 := n0_; have HO_11 := n1_; have HO_14 := n2_; have HB := n3_; clear n0_ n1_ n2_ n3_; (try clear hb); (try clear hb2); (try clear hk); (try clear hi)) | (go_at_call 12; (with_reducible refine (kindlinglaw07_known.calls k4  t484 _ ?side1 ?side2 A58.out).mono ?_); (case side1 => exact Kd.C_up <| (Kd.C_below HRG0.out HB.out)); (case side2 => exact Kd.C_up <| (Kd.C_below HRG1.out HB.out)); rintro e w62 ⟨rfl, hb⟩; have n0_ := Aside0.mk (Kd.R_below (by exact Kd.R_up <| HO_8.out) hb); have n1_ := Aside0.mk (Kd.R_below (by exact Kd.R_up <| HO_11.out) hb); have n2_ := Aside0.mk (Kd.R_below (by exact Kd.R_up <| HO_14.out) hb); have n3_ := Aside0.mk (below_step (by first | exact ai | (with_reducible exact HB.out) : Below w.heap.size w _) hb); clear HO_8; clear HO_11; clear HO_14; clear HB; have HO_8 := n0_; have HO_11 := n1_; have HO_14 := n2_; have HB := n3_; clear n0_ n1_ n2_ n3_; (try clear hb); (try clear hb2); (try clear hk); (try clear hi)))
                     go_ret
                     exact ⟨by first | rfl | (simp [errW_none, errW_some] <;> rfl) | (simp only [← hji41]; first | rfl | (simp [errW_none, errW_some] <;> rfl)) | (simp [*, errW_none, errW_some] <;> rfl), by first | exact ai | (with_reducible exact HB.out)⟩
                    ·replace c57 := Bool.eq_false_iff.mpr c57
                     subst c57
                     have H1 : (some false) = some r := by rw [if_neg (show ¬ (false = true) by decide)] at H; exact H
                     exact absurd (H1.trans (congrArg some hr)) (by simp)
                   ·rw [if_neg c55] at H
                    exact absurd (H.trans (congrArg some hr)) (by simp)
               ·rw [if_neg c44] at H
                exact absurd H (by simp)
              ·rw [if_neg c43] at H
               exact absurd H (by simp)
             ·rw [if_neg c42] at H
              exact absurd H (by simp)
     ·rw [if_neg c11] at H
      exact absurd H (by simp)
    ·rw [if_neg c10] at H
     exact absurd H (by simp)


end Go.Proofs.YtnihjlnnllngeaaDoor.PL
