-- Printed by kprint.py, lay.py, programs of this claim's author over the kit's printer.
import Derived.Test.YtnihjlnnllngeaaDoorF0
import Derived.Test.YtnihjlnnllngeaaDoorFBytes
import Derived.Test.YtnihjlnnllngeaaDoorFScan
import Derived.Test.YtnihjlnnllngeaaDoorFKnown
import Derived.Test.YtnihjlnnllngeaaDoorFRBlank
import Derived.Test.YtnihjlnnllngeaaDoorFRSame
import Derived.Test.YtnihjlnnllngeaaDoorFRAmong
namespace Go.Proofs.YtnihjlnnllngeaaDoor.PL
open Go.RowKit Go.Proofs.YtnihjlnnllngeaaDoorW.PrintWords Go.Proofs.YtnihjlnnllngeaaDoorW.PrintLast Go.Proofs.YtnihjlnnllngeaaDoorW.PrintMore
attribute [local go_sem] max2_int min2_int max_two min_two max_three min_three max_four min_four   -- for this text's walks alone
set_option linter.unusedVariables false
set_option linter.unusedSimpArgs false

/-! ### kindlinglaw07_LexBlanks: function 10 -/
mutual
def kindlinglaw07_LexBlanks.j0 : Nat → ByteArray → Int → ByteArray → Bool → Option (Bool)
 | 0, _, _, _, _ => none
 | k + 1, x0, x1, x2, x22 => if x22 = true then ((kindlinglaw07_known.f k).bind fun t486 => (some t486)) else ((lex_Scan.f k x0).bind fun bt487 => ((kindlingref07_Blank.f k x2).bind fun bt492 => (if bt487.2.2 = 0 then (if bt492.2 = true then (kindlinglaw07_LexBlanks.j1 k x0 x1 x2 bt487.1 (bt492.1 != (x2.size : Int))) else (kindlinglaw07_LexBlanks.j1 k x0 x1 x2 bt487.1 true)) else (kindlinglaw07_LexBlanks.j1 k x0 x1 x2 bt487.1 true))))
def kindlinglaw07_LexBlanks.j1 : Nat → ByteArray → Int → ByteArray → List (S32) → Bool → Option (Bool)
 | 0, _, _, _, _, _ => none
 | k + 1, x0, x1, x2, x7, x46 => if x46 = true then ((kindlinglaw07_known.f k).bind fun t494 => (some t494)) else (if (x7.length : Int) = 0 then (some false) else ((kindlingref01_Among.f x1 (x7.length : Int)).bind fun t495 => (if 0 ≤ t495 then (if t495 < (x7.length : Int) then (if ((rd_T32 x7 t495).f3) < 0 then (kindlinglaw07_LexBlanks.j2 k x0 x2 x7 ((rd_T32 x7 t495).f3) true) else (kindlinglaw07_LexBlanks.j2 k x0 x2 x7 ((rd_T32 x7 t495).f3) (decide (((rd_T32 x7 t495).f3) > (x0.size : Int))))) else (none)) else (none))))
def kindlinglaw07_LexBlanks.j2 : Nat → ByteArray → ByteArray → List (S32) → Int → Bool → Option (Bool)
 | 0, _, _, _, _, _ => none
 | k + 1, x0, x2, x7, x12, x66 => if x66 = true then (some false) else (if 0 ≤ x12 then (if x12 ≤ (x0.size : Int) then (if (x0.extract 0 (x12 : Int).toNat).size + x2.size ≤ 9223372036854775807 then (if ((x0.extract 0 (x12 : Int).toNat) ++ x2).size + (x0.extract (x12 : Int).toNat x0.size).size ≤ 9223372036854775807 then ((lex_Scan.f k (((x0.extract 0 (x12 : Int).toNat) ++ x2) ++ (x0.extract (x12 : Int).toNat x0.size))).bind fun bt497 => (if bt497.2.2 = 0 then ((kindlingref07_Same.f k x7 bt497.1 false).bind fun t502 => (if t502 = true then ((kindlinglaw07_known.f k).bind fun t503 => (some t503)) else (some false))) else (some false))) else (none)) else (none)) else (none)) else (none))
end
def kindlinglaw07_LexBlanks.f (k : Nat) (a0 : ByteArray) (a1 : Int) (a2 : ByteArray) : Option (Bool) := (kindlinglaw07_long.f a0).bind fun t485 => (if t485 = true then (kindlinglaw07_LexBlanks.j0 k a0 a1 a2 true) else (kindlinglaw07_LexBlanks.j0 k a0 a1 a2 (decide ((a2.size : Int) > 500))))
theorem kindlinglaw07_LexBlanks.mono_l : ∀ k, (∀ y0 y1 y2 y3, LeO (kindlinglaw07_LexBlanks.j0 k y0 y1 y2 y3) (kindlinglaw07_LexBlanks.j0 (k + 1) y0 y1 y2 y3)) ∧ (∀ y0 y1 y2 y3 y4, LeO (kindlinglaw07_LexBlanks.j1 k y0 y1 y2 y3 y4) (kindlinglaw07_LexBlanks.j1 (k + 1) y0 y1 y2 y3 y4)) ∧ (∀ y0 y1 y2 y3 y4, LeO (kindlinglaw07_LexBlanks.j2 k y0 y1 y2 y3 y4) (kindlinglaw07_LexBlanks.j2 (k + 1) y0 y1 y2 y3 y4))
 | 0 => ⟨fun _ _ _ _ r h => by simp [kindlinglaw07_LexBlanks.j0] at h, fun _ _ _ _ _ r h => by simp [kindlinglaw07_LexBlanks.j1] at h, fun _ _ _ _ _ r h => by simp [kindlinglaw07_LexBlanks.j2] at h⟩
 | k + 1 => by
  obtain ⟨ih0, ih1, ih2⟩ := kindlinglaw07_LexBlanks.mono_l k
  refine ⟨?_, ?_, ?_⟩
  ·intro y0 y1 y2 y3
   unfold kindlinglaw07_LexBlanks.j0
   repeat' first
   | (with_reducible exact ih0 _ _ _ _)
   | (with_reducible exact ih1 _ _ _ _ _)
   | (with_reducible exact ih2 _ _ _ _ _)
   | (with_reducible exact kindlinglaw07_known.mono _)
   | (with_reducible exact kindlingref07_Blank.mono _ _)
   | (with_reducible exact kindlingref07_Same.mono _ _ _ _)
   | (with_reducible exact lex_Scan.mono _ _)
   | (with_reducible exact LeO.refl _)
   | (with_reducible exact LeO.none _)
   | (with_reducible refine LeO.ite ?_ ?_)
   | (with_reducible refine LeO.bind ?_ (fun _ => ?_))
   | exact ih0 _ _ _ _
   | exact ih1 _ _ _ _ _
   | exact ih2 _ _ _ _ _
   | exact kindlinglaw07_known.mono _
   | exact kindlingref07_Blank.mono _ _
   | exact kindlingref07_Same.mono _ _ _ _
   | exact lex_Scan.mono _ _
   | exact LeO.none _
   | refine LeO.ite ?_ ?_
   | refine LeO.bind ?_ (fun _ => ?_)
  ·intro y0 y1 y2 y3 y4
   unfold kindlinglaw07_LexBlanks.j1
   repeat' first
   | (with_reducible exact ih0 _ _ _ _)
   | (with_reducible exact ih1 _ _ _ _ _)
   | (with_reducible exact ih2 _ _ _ _ _)
   | (with_reducible exact kindlinglaw07_known.mono _)
   | (with_reducible exact kindlingref07_Blank.mono _ _)
   | (with_reducible exact kindlingref07_Same.mono _ _ _ _)
   | (with_reducible exact lex_Scan.mono _ _)
   | (with_reducible exact LeO.refl _)
   | (with_reducible exact LeO.none _)
   | (with_reducible refine LeO.ite ?_ ?_)
   | (with_reducible refine LeO.bind ?_ (fun _ => ?_))
   | exact ih0 _ _ _ _
   | exact ih1 _ _ _ _ _
   | exact ih2 _ _ _ _ _
   | exact kindlinglaw07_known.mono _
   | exact kindlingref07_Blank.mono _ _
   | exact kindlingref07_Same.mono _ _ _ _
   | exact lex_Scan.mono _ _
   | exact LeO.none _
   | refine LeO.ite ?_ ?_
   | refine LeO.bind ?_ (fun _ => ?_)
  ·intro y0 y1 y2 y3 y4
   unfold kindlinglaw07_LexBlanks.j2
   repeat' first
   | (with_reducible exact ih0 _ _ _ _)
   | (with_reducible exact ih1 _ _ _ _ _)
   | (with_reducible exact ih2 _ _ _ _ _)
   | (with_reducible exact kindlinglaw07_known.mono _)
   | (with_reducible exact kindlingref07_Blank.mono _ _)
   | (with_reducible exact kindlingref07_Same.mono _ _ _ _)
   | (with_reducible exact lex_Scan.mono _ _)
   | (with_reducible exact LeO.refl _)
   | (with_reducible exact LeO.none _)
   | (with_reducible refine LeO.ite ?_ ?_)
   | (with_reducible refine LeO.bind ?_ (fun _ => ?_))
   | exact ih0 _ _ _ _
   | exact ih1 _ _ _ _ _
   | exact ih2 _ _ _ _ _
   | exact kindlinglaw07_known.mono _
   | exact kindlingref07_Blank.mono _ _
   | exact kindlingref07_Same.mono _ _ _ _
   | exact lex_Scan.mono _ _
   | exact LeO.none _
   | refine LeO.ite ?_ ?_
   | refine LeO.bind ?_ (fun _ => ?_)
theorem kindlinglaw07_LexBlanks.mono : ∀ a0 a1 a2 k, LeO (kindlinglaw07_LexBlanks.f k a0 a1 a2) (kindlinglaw07_LexBlanks.f (k + 1) a0 a1 a2) := by
 intro a0 a1 a2 k
 obtain ⟨ih0, ih1, ih2⟩ := kindlinglaw07_LexBlanks.mono_l k
 unfold kindlinglaw07_LexBlanks.f
 repeat' first
   | (with_reducible exact ih0 _ _ _ _)
   | (with_reducible exact ih1 _ _ _ _ _)
   | (with_reducible exact ih2 _ _ _ _ _)
   | (with_reducible exact kindlinglaw07_known.mono _)
   | (with_reducible exact kindlingref07_Blank.mono _ _)
   | (with_reducible exact kindlingref07_Same.mono _ _ _ _)
   | (with_reducible exact lex_Scan.mono _ _)
   | (with_reducible exact LeO.refl _)
   | (with_reducible exact LeO.none _)
   | (with_reducible refine LeO.ite ?_ ?_)
   | (with_reducible refine LeO.bind ?_ (fun _ => ?_))
   | exact ih0 _ _ _ _
   | exact ih1 _ _ _ _ _
   | exact ih2 _ _ _ _ _
   | exact kindlinglaw07_known.mono _
   | exact kindlingref07_Blank.mono _ _
   | exact kindlingref07_Same.mono _ _ _ _
   | exact lex_Scan.mono _ _
   | exact LeO.none _
   | refine LeO.ite ?_ ?_
   | refine LeO.bind ?_ (fun _ => ?_)
def kindlinglaw07_LexBlanks.T12 : Bool × List (List Nat × List Nat) := (true, [([], []), ([], []), ([0, 1], [0, 1]), ([], []), ([2, 3], [2, 3]), ([], []), ([], []), ([5, 6], [5, 6]), ([4, 7], [4, 7]), ([8], [8]), ([9], [9]), ([10], [10]), ([10], [10]), ([10], [10]), ([11, 9, 0, 1, 2, 3, 4, 5, 6, 7, 8, 9, 10, 11], [11]), ([12, 14, 0, 1, 2, 3, 4, 5, 6, 7, 8, 9, 10, 11, 12, 14], [12]), ([13, 15, 0, 1, 2, 3, 4, 5, 6, 7, 8, 9, 10, 11, 12, 13, 14, 15], [13])])
def kindlinglaw07_LexBlanks.B12 : List Nat := [0, 0, 3, 0, 15, 0, 0, 96, 255, 511, 1023, 2047, 2047, 2047, 4095, 24575, 65535]
theorem kindlinglaw07_LexBlanks.tab12 : rtab .any (opsOf Tryd.f10 12) = kindlinglaw07_LexBlanks.T12 := by kernel_rfl
theorem kindlinglaw07_LexBlanks.bits12 : waitsOk kindlinglaw07_LexBlanks.T12.2 kindlinglaw07_LexBlanks.B12 = true := by kernel_rfl
set_option maxHeartbeats 8000000 in
set_option maxRecDepth 100000 in
theorem kindlinglaw07_LexBlanks.calls (k : Nat) (a0 : ByteArray) (a1 : Int) (a2 : ByteArray) (r : Bool) (w : World) (hrG0 : Kd.C Kd.string w AG0 lG0.length lG0) (hrG1 : Kd.C Kd.string w AG1 lG1.length lG1) (hr : r = true) (h : kindlinglaw07_LexBlanks.f k a0 a1 a2 = some r) :
  Calls Tryd.prog 10 #[.string a0, .int .i64 a1, .string a2] w fun e w' => e = .returned (.bool r) ∧ Below w.heap.size w w' := by
 have HRG0 := Aside0.mk hrG0
 have HCG0 := Aside0.mk (show lG0.length ≤ cG0 by decide)
 clear hrG0
 have HRG1 := Aside0.mk hrG1
 have HCG1 := Aside0.mk (show lG1.length ≤ cG1 by decide)
 clear hrG1
 have HB := Aside0.mk (Below.refl w.heap.size w)
 have H : ((kindlinglaw07_long.f a0).bind fun t485 => (if t485 = true then (kindlinglaw07_LexBlanks.j0 k a0 a1 a2 true) else (kindlinglaw07_LexBlanks.j0 k a0 a1 a2 (decide ((a2.size : Int) > 500))))) = some r := h
 clear h
 have HC4 := Aside0.mk H
 clear H
 go_enter Tryd.func10, Tryd.ntmps10
 go_upto_region 1 with (fail)
 go_cut [22] (fun v22 wc => ∃ (kq : Nat) (x22_3 : Bool), v22 = .bool x22_3 ∧ Aside0 (kindlinglaw07_LexBlanks.j0 kq a0 a1 a2 x22_3 = some r) ∧ Aside0 (kq ≤ k) ∧ Aside0 (Below w.heap.size w wc))
 case first =>
  have H := HC4.out
  clear HC4
  replace H := Option.bind_eq_some_iff.mp H
  obtain ⟨t485, A50, H⟩ := H
  replace H : (if t485 = true then (kindlinglaw07_LexBlanks.j0 k a0 a1 a2 true) else (kindlinglaw07_LexBlanks.j0 k a0 a1 a2 (decide ((a2.size : Int) > 500)))) = some r := H
  have A5 := Aside0.mk A50
  clear A50
  by_cases c6 : t485 = true
  ·subst c6
   have H1 : (kindlinglaw07_LexBlanks.j0 k a0 a1 a2 true) = some r := by rw [if_pos rfl] at H; exact H
   clear H
   have H := H1
   clear H1
   have H' := Aside0.mk H
   clear H
   go_wp2_with (first | ((with_reducible refine gate_callee (f := 11) rfl ?_); refine goesL_ (some 17) rfl rfl Tryd.func11 (by kernel_rfl) rfl #[.string a0] rfl (by (try simp only [List.map_toArray, List.map_cons, List.map_nil]); first | done | rfl | (simp only [List.length_drop, List.length_take]; rfl)) ?_; (with_reducible refine (kindlinglaw07_long.calls a0 true _ A5.out).mono ?_); rintro e w' ⟨rfl, ⟨nd, rfl⟩⟩; refine ⟨_, rfl, ?_⟩))
   go_meet
   case rel => exact ⟨_, (true), (by first | rfl | (simp; done) | (simp [*]; done) | (simp [i64_w, u8_w]; done) | (simp; simp only [isEmpty_bne]; done)), H', ⟨by first | omega | exact Nat.le_refl _⟩, ⟨by first | exact ai | (with_reducible exact HB.out)⟩⟩
  ·replace c6 := Bool.eq_false_iff.mpr c6
   subst c6
   have H1 : (kindlinglaw07_LexBlanks.j0 k a0 a1 a2 (decide ((a2.size : Int) > 500))) = some r := by rw [if_neg (show ¬ (false = true) by decide)] at H; exact H
   clear H
   have H := H1
   clear H1
   have H' := Aside0.mk H
   clear H
   go_wp2_with (first | ((with_reducible refine gate_callee (f := 11) rfl ?_); refine goesL_ (some 17) rfl rfl Tryd.func11 (by kernel_rfl) rfl #[.string a0] rfl (by (try simp only [List.map_toArray, List.map_cons, List.map_nil]); first | done | rfl | (simp only [List.length_drop, List.length_take]; rfl)) ?_; (with_reducible refine (kindlinglaw07_long.calls a0 false _ A5.out).mono ?_); rintro e w' ⟨rfl, ⟨nd, rfl⟩⟩; refine ⟨_, rfl, ?_⟩))
   go_meet
   case rel => exact ⟨_, (decide ((a2.size : Int) > 500)), (by first | rfl | (simp; done) | (simp [*]; done) | (simp [i64_w, u8_w]; done) | (simp; simp only [isEmpty_bne]; done)), H', ⟨by first | omega | exact Nat.le_refl _⟩, ⟨by first | exact ai | (with_reducible exact HB.out)⟩⟩
 case rest =>
  clear HC4
  try clear c1
  try clear p2
  try clear c6
  obtain ⟨kq, x22_3, rfl, HA, HJ3, HB⟩ := hcut
  cases kq with
  | zero => exact absurd HA.out (by simp [kindlinglaw07_LexBlanks.j0])
  | succ kj3 =>
   have H := HA.out
   clear HA
   simp only [kindlinglaw07_LexBlanks.j0] at H
   by_cases c7 : x22_3 = true
   ·subst c7
    have H1 : ((kindlinglaw07_known.f kj3).bind fun t486 => (some t486)) = some r := by rw [if_pos rfl] at H; exact H
    clear H
    have H := H1
    clear H1
    replace H := Option.bind_eq_some_iff.mp H
    obtain ⟨t486, A80, H⟩ := H
    replace H : (some t486) = some r := H
    have A8 := Aside0.mk A80
    clear A80
    obtain rfl := Option.some.inj H
    go_wp2_with (first | ((with_reducible refine gate_callee (f := 12) rfl ?_); refine goesL_ (some 23) rfl rfl Tryd.func12 (by kernel_rfl) rfl #[] rfl (by (try simp only [List.map_toArray, List.map_cons, List.map_nil]); first | done | rfl | (simp only [List.length_drop, List.length_take]; rfl)) ?_; (with_reducible refine (kindlinglaw07_known.calls kj3  t486 _ ?side1 ?side2 A8.out).mono ?_); (case side1 => exact Kd.C_up <| (Kd.C_below HRG0.out HB.out)); (case side2 => exact Kd.C_up <| (Kd.C_below HRG1.out HB.out)); rintro e w9 ⟨rfl, hb⟩; refine ⟨_, rfl, ?_⟩; have n0_ := Aside0.mk (below_step (by first | exact ai | (with_reducible exact HB.out) : Below w.heap.size w _) hb); clear HB; have HB := n0_; clear n0_; (try clear hb); (try clear hb2); (try clear hk); (try clear hi)))
    go_ret
    exact ⟨by first | rfl | (simp [errW_none, errW_some] <;> rfl) | (simp [*, errW_none, errW_some] <;> rfl), by first | exact ai | (with_reducible exact HB.out)⟩
   ·replace c7 := Bool.eq_false_iff.mpr c7
    subst c7
    have H1 : ((lex_Scan.f kj3 a0).bind fun bt487 => ((kindlingref07_Blank.f kj3 a2).bind fun bt492 => (if bt487.2.2 = 0 then (if bt492.2 = true then (kindlinglaw07_LexBlanks.j1 kj3 a0 a1 a2 bt487.1 (bt492.1 != (a2.size : Int))) else (kindlinglaw07_LexBlanks.j1 kj3 a0 a1 a2 bt487.1 true)) else (kindlinglaw07_LexBlanks.j1 kj3 a0 a1 a2 bt487.1 true)))) = some r := by rw [if_neg (show ¬ (false = true) by decide)] at H; exact H
    clear H
    have H := H1
    clear H1
    replace H := Option.bind_eq_some_iff.mp H
    obtain ⟨⟨t487, t488, t489⟩, A100, H⟩ := H
    replace H : ((kindlingref07_Blank.f kj3 a2).bind fun bt492 => (if t489 = 0 then (if bt492.2 = true then (kindlinglaw07_LexBlanks.j1 kj3 a0 a1 a2 t487 (bt492.1 != (a2.size : Int))) else (kindlinglaw07_LexBlanks.j1 kj3 a0 a1 a2 t487 true)) else (kindlinglaw07_LexBlanks.j1 kj3 a0 a1 a2 t487 true))) = some r := H
    have A10 := Aside0.mk A100
    clear A100
    replace H := Option.bind_eq_some_iff.mp H
    obtain ⟨⟨t492, t493⟩, A110, H⟩ := H
    replace H : (if t489 = 0 then (if t493 = true then (kindlinglaw07_LexBlanks.j1 kj3 a0 a1 a2 t487 (t492 != (a2.size : Int))) else (kindlinglaw07_LexBlanks.j1 kj3 a0 a1 a2 t487 true)) else (kindlinglaw07_LexBlanks.j1 kj3 a0 a1 a2 t487 true)) = some r := H
    have A11 := Aside0.mk A110
    clear A110
    have HC12 := Aside0.mk H
    clear H
    go_upto_region 5 with (first | ((with_reducible refine gate_callee (f := 13) rfl ?_); refine goesL_ (some 26) rfl rfl Tryd.func13 (by kernel_rfl) rfl #[.string a0] rfl (by (try simp only [List.map_toArray, List.map_cons, List.map_nil]); first | done | rfl | (simp only [List.length_drop, List.length_take]; rfl)) ?_; (with_reducible refine (lex_Scan.calls kj3 a0 t487 t488 t489 _ ?side1 ?side2 A10.out).mono ?_); (case side1 => exact Kd.C_up <| (Kd.C_below HRG0.out HB.out)); (case side2 => exact Kd.C_up <| (Kd.C_below HRG1.out HB.out)); rintro e w13 ⟨v490, rfl, ho0, hb⟩; refine ⟨_, rfl, ?_⟩; have n0_ := Aside0.mk (Kd.R_lower ho0 (below_size (by first | exact ai | (with_reducible exact HB.out) : Below w.heap.size w _))); have n1_ := Aside0.mk (below_step (by first | exact ai | (with_reducible exact HB.out) : Below w.heap.size w _) hb); clear HB; have HO491 := n0_; have HB := n1_; clear n0_ n1_; (try clear hb); (try clear hb2); (try clear hk); (try clear hi); (try clear ho0)) | ((with_reducible refine gate_callee (f := 22) rfl ?_); refine goesL_ (some 32) rfl rfl Tryd.func22 (by kernel_rfl) rfl #[.string a2] rfl (by (try simp only [List.map_toArray, List.map_cons, List.map_nil]); first | done | rfl | (simp only [List.length_drop, List.length_take]; rfl)) ?_; (with_reducible refine (kindlingref07_Blank.calls kj3 a2 t492 t493 _ A11.out).mono ?_); rintro e w' ⟨rfl, ⟨nd, rfl⟩⟩; refine ⟨_, rfl, ?_⟩))
    (try simp only [Act.put, List.setIfInBounds_toArray, List.set_cons_zero, List.set_cons_succ])
    go_cut [46] (fun v46 wc => ∃ (kq : Nat) (x46_11 : Bool), v46 = .bool x46_11 ∧ Aside0 (kindlinglaw07_LexBlanks.j1 kq a0 a1 a2 t487 x46_11 = some r) ∧ Aside0 (kq ≤ kj3) ∧ Aside0 (Kd.R k32 32 wc w.heap.size (fun _ => True) v490 t487) ∧ Aside0 (Below w.heap.size w wc))
    case first =>
     have H := HC12.out
     clear HC12
     by_cases c14 : t489 = 0
     ·rw [if_pos c14] at H
      have c14b0 : (t489 == 0) = true := beq_iff_eq.mpr c14
      have c14b1 : (t489 != 0) = false := bne_eq_false_iff_eq.mpr c14
      clear c14
      (first | rw [c14b0] | rw [c14b1] | (simp only [i64_w, i32_w]; rw [c14b0]) | skip)
      by_cases c15 : t493 = true
      ·subst c15
       have H1 : (kindlinglaw07_LexBlanks.j1 kj3 a0 a1 a2 t487 (t492 != (a2.size : Int))) = some r := by rw [if_pos rfl] at H; exact H
       clear H
       have H := H1
       clear H1
       have H' := Aside0.mk H
       clear H
       go_wp2
       go_meet
       case rel => exact ⟨_, ((t492 != (a2.size : Int))), (by first | rfl | (simp; done) | (simp [*]; done) | (simp [i64_w, u8_w]; done) | (simp; simp only [isEmpty_bne]; done)), H', ⟨by have := HJ3.out; first | omega | exact Nat.le_refl _⟩, ⟨by exact Kd.R_up <| HO491.out⟩, ⟨by first | exact ai | (with_reducible exact HB.out)⟩⟩
      ·replace c15 := Bool.eq_false_iff.mpr c15
       subst c15
       have H1 : (kindlinglaw07_LexBlanks.j1 kj3 a0 a1 a2 t487 true) = some r := by rw [if_neg (show ¬ (false = true) by decide)] at H; exact H
       clear H
       have H := H1
       clear H1
       have H' := Aside0.mk H
       clear H
       go_wp2
       go_meet
       case rel => exact ⟨_, (true), (by first | rfl | (simp; done) | (simp [*]; done) | (simp [i64_w, u8_w]; done) | (simp; simp only [isEmpty_bne]; done)), H', ⟨by have := HJ3.out; first | omega | exact Nat.le_refl _⟩, ⟨by exact Kd.R_up <| HO491.out⟩, ⟨by first | exact ai | (with_reducible exact HB.out)⟩⟩
     ·rw [if_neg c14] at H
      have c14b0 : (t489 == 0) = false := beq_eq_false_iff_ne.mpr c14
      have c14b1 : (t489 != 0) = true := bne_iff_ne.mpr c14
      (first | rw [c14b0] | rw [c14b1] | (simp only [i64_w, i32_w]; rw [c14b0]) | skip)
      have H' := Aside0.mk H
      clear H
      go_wp2
      go_meet
      case rel => exact ⟨_, (true), (by first | rfl | (simp; done) | (simp [*]; done) | (simp [i64_w, u8_w]; done) | (simp; simp only [isEmpty_bne]; done)), H', ⟨by have := HJ3.out; first | omega | exact Nat.le_refl _⟩, ⟨by exact Kd.R_up <| HO491.out⟩, ⟨by first | exact ai | (with_reducible exact HB.out)⟩⟩
    case rest =>
     clear HC12
     try clear c1
     try clear c2
     try clear p2
     try clear c6
     try clear c7
     try clear c10
     try clear c11
     try clear c12
     try clear c13
     try clear c14
     try clear c14b0
     try clear c14b1
     try clear c15
     try clear p2
     obtain ⟨kq, x46_11, rfl, HA, HJ11, HO_7, HB⟩ := hcut
     cases kq with
     | zero => exact absurd HA.out (by simp [kindlinglaw07_LexBlanks.j1])
     | succ kj11 =>
      have H := HA.out
      clear HA
      simp only [kindlinglaw07_LexBlanks.j1] at H
      by_cases c16 : x46_11 = true
      ·subst c16
       have H1 : ((kindlinglaw07_known.f kj11).bind fun t494 => (some t494)) = some r := by rw [if_pos rfl] at H; exact H
       clear H
       have H := H1
       clear H1
       replace H := Option.bind_eq_some_iff.mp H
       obtain ⟨t494, A170, H⟩ := H
       replace H : (some t494) = some r := H
       have A17 := Aside0.mk A170
       clear A170
       obtain rfl := Option.some.inj H
       go_wp2_with (first | ((with_reducible refine gate_callee (f := 12) rfl ?_); refine goesL_ (some 47) rfl rfl Tryd.func12 (by kernel_rfl) rfl #[] rfl (by (try simp only [List.map_toArray, List.map_cons, List.map_nil]); first | done | rfl | (simp only [List.length_drop, List.length_take]; rfl)) ?_; (with_reducible refine (kindlinglaw07_known.calls kj11  t494 _ ?side1 ?side2 A17.out).mono ?_); (case side1 => exact Kd.C_up <| (Kd.C_below HRG0.out HB.out)); (case side2 => exact Kd.C_up <| (Kd.C_below HRG1.out HB.out)); rintro e w18 ⟨rfl, hb⟩; refine ⟨_, rfl, ?_⟩; have n0_ := Aside0.mk (Kd.R_below (by exact Kd.R_up <| HO_7.out) hb); have n1_ := Aside0.mk (below_step (by first | exact ai | (with_reducible exact HB.out) : Below w.heap.size w _) hb); clear HO_7; clear HB; have HO_7 := n0_; have HB := n1_; clear n0_ n1_; (try clear hb); (try clear hb2); (try clear hk); (try clear hi)))
       go_ret
       exact ⟨by first | rfl | (simp [errW_none, errW_some] <;> rfl) | (simp [*, errW_none, errW_some] <;> rfl), by first | exact ai | (with_reducible exact HB.out)⟩
      ·replace c16 := Bool.eq_false_iff.mpr c16
       subst c16
       have H1 : (if (t487.length : Int) = 0 then (some false) else ((kindlingref01_Among.f a1 (t487.length : Int)).bind fun t495 => (if 0 ≤ t495 then (if t495 < (t487.length : Int) then (if ((rd_T32 t487 t495).f3) < 0 then (kindlinglaw07_LexBlanks.j2 kj11 a0 a2 t487 ((rd_T32 t487 t495).f3) true) else (kindlinglaw07_LexBlanks.j2 kj11 a0 a2 t487 ((rd_T32 t487 t495).f3) (decide (((rd_T32 t487 t495).f3) > (a0.size : Int))))) else (none)) else (none)))) = some r := by rw [if_neg (show ¬ (false = true) by decide)] at H; exact H
       clear H
       have H := H1
       clear H1
       by_cases c19 : (t487.length : Int) = 0
       ·rw [if_pos c19] at H
        exact absurd (H.trans (congrArg some hr)) (by simp)
       ·rw [if_neg c19] at H
        have c19b0 : ((t487.length : Int) == 0) = false := beq_eq_false_iff_ne.mpr c19
        have c19b1 : ((t487.length : Int) != 0) = true := bne_iff_ne.mpr c19
        have c19b2 : ¬ (t487 = []) := fun h_ => c19 (by rw [h_]; rfl)
        replace H := Option.bind_eq_some_iff.mp H
        obtain ⟨t495, A210, H⟩ := H
        replace H : (if 0 ≤ t495 then (if t495 < (t487.length : Int) then (if ((rd_T32 t487 t495).f3) < 0 then (kindlinglaw07_LexBlanks.j2 kj11 a0 a2 t487 ((rd_T32 t487 t495).f3) true) else (kindlinglaw07_LexBlanks.j2 kj11 a0 a2 t487 ((rd_T32 t487 t495).f3) (decide (((rd_T32 t487 t495).f3) > (a0.size : Int))))) else (none)) else (none)) = some r := H
        have A21 := Aside0.mk A210
        clear A210
        by_cases c22 : 0 ≤ t495
        ·rw [if_pos c22] at H
         have c22b0 : decide (0 ≤ t495) = true := decide_eq_true c22
         clear c22
         by_cases c23 : t495 < (t487.length : Int)
         ·rw [if_pos c23] at H
          have c23b0 : decide (t495 < (t487.length : Int)) = true := decide_eq_true c23
          clear c23
          have HC24 := Aside0.mk H
          clear H
          obtain ⟨Ao25, co25, eo25⟩ := Kd.R_slice HO_7.out
          subst eo25
          go_upto_region 10 with (first | ((with_reducible refine gate_callee (f := 16) rfl ?_); refine goesL_ (some 55) rfl rfl Tryd.func16 (by kernel_rfl) rfl #[.int .i64 a1, .int .i64 (t487.length : Int)] rfl (by (try simp only [List.map_toArray, List.map_cons, List.map_nil]); first | done | rfl | (simp only [List.length_drop, List.length_take]; rfl)) ?_; (with_reducible refine (kindlingref01_Among.calls a1 (t487.length : Int) t495 _ A21.out).mono ?_); rintro e w' ⟨rfl, ⟨nd, rfl⟩⟩; refine ⟨_, rfl, ?_⟩; have p496 : 0 ≤ (t495 : Int) := of_decide_eq_true (by first | (with_reducible assumption) | assumption); have q496 : t495 < (t487.length : Int) := of_decide_eq_true (by first | (with_reducible assumption) | assumption); obtain ⟨ad496, e496, hx496_0, hx496_1, hx496_2, hx496_3⟩ := at_T32 (Kd.R_reads' HO_7.out).2.2 t495 p496 q496; cases e496; replace p496 := eq_true p496; replace q496 := eq_true q496))
          (try simp only [Act.put, List.setIfInBounds_toArray, List.set_cons_zero, List.set_cons_succ])
          go_cut [66] (fun v66 wc => ∃ (kq : Nat) (x66_23 : Bool), v66 = .bool x66_23 ∧ Aside0 (kindlinglaw07_LexBlanks.j2 kq a0 a2 t487 ((rd_T32 t487 t495).f3) x66_23 = some r) ∧ Aside0 (kq ≤ kj11) ∧ Aside0 (Kd.R k32 32 wc w.heap.size (fun _ => True) (.slice (some ad496) t487.length co25) t487) ∧ Aside0 (Below w.heap.size w wc))
          case first =>
           have H := HC24.out
           clear HC24
           by_cases c26 : ((rd_T32 t487 t495).f3) < 0
           ·rw [if_pos c26] at H
            have c26b0 : decide (((rd_T32 t487 t495).f3) < 0) = true := decide_eq_true c26
            clear c26
            (first | rw [c26b0] | rw [c26b1] | (simp only [i64_w, i32_w]; rw [c26b0]) | skip)
            have H' := Aside0.mk H
            clear H
            go_wp2
            go_meet
            case rel => exact ⟨_, (true), (by first | rfl | (simp; done) | (simp [*]; done) | (simp [i64_w, u8_w]; done) | (simp; simp only [isEmpty_bne]; done)), H', ⟨by have := HJ3.out; have := HJ11.out; first | omega | exact Nat.le_refl _⟩, ⟨by exact Kd.R_up <| HO_7.out⟩, ⟨by first | exact ai | (with_reducible exact HB.out)⟩⟩
           ·rw [if_neg c26] at H
            have c26b0 : decide (((rd_T32 t487 t495).f3) < 0) = false := decide_eq_false c26
            clear c26
            (first | rw [c26b0] | rw [c26b1] | (simp only [i64_w, i32_w]; rw [c26b0]) | skip)
            have H' := Aside0.mk H
            clear H
            go_wp2
            go_meet
            case rel => exact ⟨_, (decide (((rd_T32 t487 t495).f3) > (a0.size : Int))), (by first | rfl | (simp; done) | (simp [*]; done) | (simp [i64_w, u8_w]; done) | (simp; simp only [isEmpty_bne]; done)), H', ⟨by have := HJ3.out; have := HJ11.out; first | omega | exact Nat.le_refl _⟩, ⟨by exact Kd.R_up <| HO_7.out⟩, ⟨by first | exact ai | (with_reducible exact HB.out)⟩⟩
          case rest =>
           clear HC24
           try clear c1
           try clear c2
           try clear p2
           try clear p4
           try clear q4
           try clear hx4
           try clear c6
           try clear c7
           try clear c10
           try clear c11
           try clear c12
           try clear c13
           try clear c14
           try clear c14b0
           try clear c14b1
           try clear c15
           try clear c16
           try clear c19
           try clear c19b0
           try clear c19b1
           try clear c19b2
           try clear c22
           try clear c22b0
           try clear c23
           try clear c23b0
           try clear c26
           try clear c26b0
           try clear hx496_0
           try clear hx496_1
           try clear hx496_2
           try clear hx496_3
           try clear p2
           try clear p496
           try clear q496
           obtain ⟨kq, x66_23, rfl, HA, HJ23, HO_7, HB⟩ := hcut
           cases kq with
           | zero => exact absurd HA.out (by simp [kindlinglaw07_LexBlanks.j2])
           | succ kj23 =>
            have H := HA.out
            clear HA
            simp only [kindlinglaw07_LexBlanks.j2] at H
            by_cases c27 : x66_23 = true
            ·subst c27
             have H1 : (some false) = some r := by rw [if_pos rfl] at H; exact H
             exact absurd (H1.trans (congrArg some hr)) (by simp)
            ·replace c27 := Bool.eq_false_iff.mpr c27
             subst c27
             have H1 : (if 0 ≤ ((rd_T32 t487 t495).f3) then (if ((rd_T32 t487 t495).f3) ≤ (a0.size : Int) then (if (a0.extract 0 (((rd_T32 t487 t495).f3) : Int).toNat).size + a2.size ≤ 9223372036854775807 then (if ((a0.extract 0 (((rd_T32 t487 t495).f3) : Int).toNat) ++ a2).size + (a0.extract (((rd_T32 t487 t495).f3) : Int).toNat a0.size).size ≤ 9223372036854775807 then ((lex_Scan.f kj23 (((a0.extract 0 (((rd_T32 t487 t495).f3) : Int).toNat) ++ a2) ++ (a0.extract (((rd_T32 t487 t495).f3) : Int).toNat a0.size))).bind fun bt497 => (if bt497.2.2 = 0 then ((kindlingref07_Same.f kj23 t487 bt497.1 false).bind fun t502 => (if t502 = true then ((kindlinglaw07_known.f kj23).bind fun t503 => (some t503)) else (some false))) else (some false))) else (none)) else (none)) else (none)) else (none)) = some r := by rw [if_neg (show ¬ (false = true) by decide)] at H; exact H
             clear H
             have H := H1
             clear H1
             by_cases c28 : 0 ≤ ((rd_T32 t487 t495).f3)
             ·rw [if_pos c28] at H
              have c28b0 := eq_true c28
              have c28b1 : decide (0 ≤ ((rd_T32 t487 t495).f3)) = true := decide_eq_true c28
              clear c28
              by_cases c29 : ((rd_T32 t487 t495).f3) ≤ (a0.size : Int)
              ·rw [if_pos c29] at H
               have c29b0 := eq_true c29
               have c29b1 : decide (((rd_T32 t487 t495).f3) ≤ (a0.size : Int)) = true := decide_eq_true c29
               clear c29
               by_cases c30 : (a0.extract 0 (((rd_T32 t487 t495).f3) : Int).toNat).size + a2.size ≤ 9223372036854775807
               ·rw [if_pos c30] at H
                have c30b0 := eq_true c30
                have c30b1 : decide ((a0.extract 0 (((rd_T32 t487 t495).f3) : Int).toNat).size + a2.size ≤ 9223372036854775807) = true := decide_eq_true c30
                try have c30b2 : (9223372036854775807 < (a0.extract 0 (((rd_T32 t487 t495).f3) : Int).toNat).size + a2.size) = False := eq_false (Nat.not_lt.2 c30)
                have c30b3_ : (9223372036854775807 < (((rd_T32 t487 t495).f3)).toNat + a2.size) = False := eq_false (by have h_ := c30; have h2_ : ((rd_T32 t487 t495).f3) ≤ (a0.size : Int) := of_decide_eq_true (by first | (with_reducible assumption) | assumption); rw [ByteArray.size_extract] at h_; omega)
                have c31b0 := eq_true (of_decide_eq_true (by first | (with_reducible assumption) | assumption) : 0 ≤ ((rd_T32 t487 t495).f3))
                have c32b0 := eq_true (of_decide_eq_true (by first | (with_reducible assumption) | assumption) : ((rd_T32 t487 t495).f3) ≤ (a0.size : Int))
                by_cases c33 : ((a0.extract 0 (((rd_T32 t487 t495).f3) : Int).toNat) ++ a2).size + (a0.extract (((rd_T32 t487 t495).f3) : Int).toNat a0.size).size ≤ 9223372036854775807
                ·rw [if_pos c33] at H
                 have c33b0 := eq_true c33
                 have c33b1 : decide (((a0.extract 0 (((rd_T32 t487 t495).f3) : Int).toNat) ++ a2).size + (a0.extract (((rd_T32 t487 t495).f3) : Int).toNat a0.size).size ≤ 9223372036854775807) = true := decide_eq_true c33
                 try have c33b2 : (9223372036854775807 < ((a0.extract 0 (((rd_T32 t487 t495).f3) : Int).toNat) ++ a2).size + (a0.extract (((rd_T32 t487 t495).f3) : Int).toNat a0.size).size) = False := eq_false (Nat.not_lt.2 c33)
                 have c33b3_ : (9223372036854775807 < (((rd_T32 t487 t495).f3)).toNat + a2.size + (a0.size - (((rd_T32 t487 t495).f3)).toNat)) = False := eq_false (by have h_ := c33; have h2_ : ((rd_T32 t487 t495).f3) ≤ (a0.size : Int) := of_decide_eq_true (by first | (with_reducible assumption) | assumption); rw [ByteArray.size_append, ByteArray.size_extract, ByteArray.size_extract] at h_; omega)
                 replace H := Option.bind_eq_some_iff.mp H
                 obtain ⟨⟨t497, t498, t499⟩, A340, H⟩ := H
                 replace H : (if t499 = 0 then ((kindlingref07_Same.f kj23 t487 t497 false).bind fun t502 => (if t502 = true then ((kindlinglaw07_known.f kj23).bind fun t503 => (some t503)) else (some false))) else (some false)) = some r := H
                 have A34 := Aside0.mk A340
                 clear A340
                 by_cases c35 : t499 = 0
                 ·rw [if_pos c35] at H
                  have c35b0 : (t499 == 0) = true := beq_iff_eq.mpr c35
                  have c35b1 : (t499 != 0) = false := bne_eq_false_iff_eq.mpr c35
                  clear c35
                  replace H := Option.bind_eq_some_iff.mp H
                  obtain ⟨t502, A360, H⟩ := H
                  replace H : (if t502 = true then ((kindlinglaw07_known.f kj23).bind fun t503 => (some t503)) else (some false)) = some r := H
                  have A36 := Aside0.mk A360
                  clear A360
                  by_cases c37 : t502 = true
                  ·subst c37
                   have H1 : ((kindlinglaw07_known.f kj23).bind fun t503 => (some t503)) = some r := by rw [if_pos rfl] at H; exact H
                   clear H
                   have H := H1
                   clear H1
                   replace H := Option.bind_eq_some_iff.mp H
                   obtain ⟨t503, A380, H⟩ := H
                   replace H : (some t503) = some r := H
                   have A38 := Aside0.mk A380
                   clear A380
                   obtain rfl := Option.some.inj H
                   try go_wp2
                   have n0_ := Aside0.mk (Kd.R_drew HO_7.out)
                   have n1_ := Aside0.mk (below_drew1 HB.out)
                   clear HO_7
                   clear HB
                   have HO_7 := n0_
                   have HB := n1_
                   clear n0_ n1_
                   refine start_ (n := 17) (S := fun w' => True) (ds := []) #[false, false, false, false, false, false, false, false, false, false, false, false, false, false, false, false, false] (by kernel_rfl) rfl rfl trivial (fun hHeld => ?_); refine with_tabW kindlinglaw07_LexBlanks.tab12 kindlinglaw07_LexBlanks.bits12 (fun HT_ HW_ => ?_)
                   generalize wc.drew = w39 at HO_7 HB hHeld ⊢
                   refine pure_ (i := 0) (N := some 68) (v := ?_) (a' := ?_) #[true, false, false, false, false, false, false, false, false, false, false, false, false, false, false, false, false] rfl rfl (any_of HT_.out (by kernel_rfl)) (fun _ _ _ h => h) (Or.inl ⟨by rfl, ?_⟩) ?_ ?_
                   rotate_left
                   ·intro w'
                    go_simp
                    with_reducible rfl
                   rotate_left
                   ·simp only [Act.put, List.setIfInBounds_toArray, List.set_cons_zero, List.set_cons_succ, i64_w, i32_w]
                    rfl
                   refine pure_ (i := 1) (N := some 69) (v := ?_) (a' := ?_) #[true, true, false, false, false, false, false, false, false, false, false, false, false, false, false, false, false] rfl rfl (any_of HT_.out (by kernel_rfl)) (fun _ _ _ h => h) (Or.inl ⟨by rfl, ?_⟩) ?_ ?_
                   rotate_left
                   ·intro w'
                    go_simp
                    with_reducible rfl
                   rotate_left
                   ·simp only [Act.put, List.setIfInBounds_toArray, List.set_cons_zero, List.set_cons_succ, i64_w, i32_w]
                    rfl
                   refine pure_ (i := 2) (N := some 70) (v := ?_) (a' := ?_) #[true, true, true, false, false, false, false, false, false, false, false, false, false, false, false, false, false] rfl rfl (any_of HT_.out (by kernel_rfl)) (fun _ _ _ h => h) (Or.inl ⟨by rfl, ?_⟩) ?_ ?_
                   rotate_left
                   ·intro w'
                    go_simp
                    with_reducible rfl
                   rotate_left
                   ·simp only [Act.put, List.setIfInBounds_toArray, List.set_cons_zero, List.set_cons_succ, i64_w, i32_w]
                    rfl
                   refine pure_ (i := 3) (N := some 71) (v := ?_) (a' := ?_) #[true, true, true, true, false, false, false, false, false, false, false, false, false, false, false, false, false] rfl rfl (any_of HT_.out (by kernel_rfl)) (fun _ _ _ h => h) (Or.inl ⟨by rfl, ?_⟩) ?_ ?_
                   rotate_left
                   ·intro w'
                    go_simp
                    with_reducible rfl
                   rotate_left
                   ·simp only [Act.put, List.setIfInBounds_toArray, List.set_cons_zero, List.set_cons_succ, i64_w, i32_w]
                    rfl
                   refine pure_ (i := 4) (N := some 72) (v := ?_) (a' := ?_) #[true, true, true, true, true, false, false, false, false, false, false, false, false, false, false, false, false] rfl rfl (any_of HT_.out (by kernel_rfl)) (fun _ _ _ h => h) (Or.inl ⟨by rfl, ?_⟩) ?_ ?_
                   rotate_left
                   ·intro w'
                    go_simp
                    with_reducible rfl
                   rotate_left
                   ·simp only [Act.put, List.setIfInBounds_toArray, List.set_cons_zero, List.set_cons_succ, i64_w, i32_w]
                    rfl
                   refine pure_ (i := 5) (N := some 73) (v := ?_) (a' := ?_) #[true, true, true, true, true, true, false, false, false, false, false, false, false, false, false, false, false] rfl rfl (any_of HT_.out (by kernel_rfl)) (fun _ _ _ h => h) (Or.inl ⟨by rfl, ?_⟩) ?_ ?_
                   rotate_left
                   ·intro w'
                    go_simp
                    with_reducible rfl
                   rotate_left
                   ·simp only [Act.put, List.setIfInBounds_toArray, List.set_cons_zero, List.set_cons_succ, i64_w, i32_w]
                    rfl
                   refine pure_ (i := 6) (N := some 74) (v := ?_) (a' := ?_) #[true, true, true, true, true, true, true, false, false, false, false, false, false, false, false, false, false] rfl rfl (any_of HT_.out (by kernel_rfl)) (fun _ _ _ h => h) (Or.inl ⟨by rfl, ?_⟩) ?_ ?_
                   rotate_left
                   ·intro w'
                    go_simp
                    with_reducible rfl
                   rotate_left
                   ·simp only [Act.put, List.setIfInBounds_toArray, List.set_cons_zero, List.set_cons_succ, i64_w, i32_w]
                    rfl
                   refine pure_ (i := 7) (N := some 75) (v := ?_) (a' := ?_) #[true, true, true, true, true, true, true, true, false, false, false, false, false, false, false, false, false] rfl rfl (any_of HT_.out (by kernel_rfl)) (fun _ _ _ h => h) (Or.inl ⟨by rfl, ?_⟩) ?_ ?_
                   rotate_left
                   ·intro w'
                    go_simp
                    with_reducible rfl
                   rotate_left
                   ·simp only [Act.put, List.setIfInBounds_toArray, List.set_cons_zero, List.set_cons_succ, i64_w, i32_w]
                    rfl
                   refine pure_ (i := 8) (N := some 76) (v := ?_) (a' := ?_) #[true, true, true, true, true, true, true, true, true, false, false, false, false, false, false, false, false] rfl rfl (any_of HT_.out (by kernel_rfl)) (fun _ _ _ h => h) (Or.inl ⟨by rfl, ?_⟩) ?_ ?_
                   rotate_left
                   ·intro w'
                    go_simp
                    with_reducible rfl
                   rotate_left
                   ·simp only [Act.put, List.setIfInBounds_toArray, List.set_cons_zero, List.set_cons_succ, i64_w, i32_w]
                    rfl
                   refine one_ (i := 9) (N := some 77) #[true, true, true, true, true, true, true, true, true, true, false, false, false, false, false, false, false] rfl rfl (one_of HT_.out (by kernel_rfl)) (by decide) (fun K hK => ?_)
                   refine goes_ Tryd.func13 (by kernel_rfl) rfl #[.string (((a0.extract 0 (((rd_T32 t487 t495).f3) : Int).toNat) ++ a2) ++ (a0.extract (((rd_T32 t487 t495).f3) : Int).toNat a0.size))] (by rfl) rfl rfl (by (try simp only [List.map_toArray, List.map_cons, List.map_nil]); first | done | rfl | (simp only [List.length_drop, List.length_take]; rfl)) ?_
                   with_reducible refine (lex_Scan.calls kj23 (((a0.extract 0 (((rd_T32 t487 t495).f3) : Int).toNat) ++ a2) ++ (a0.extract (((rd_T32 t487 t495).f3) : Int).toNat a0.size)) t497 t498 t499 _ ?side1 ?side2 A34.out).mono ?_
                   (case side1 => exact Kd.C_up <| (Kd.C_below HRG0.out HB.out))
                   (case side2 => exact Kd.C_up <| (Kd.C_below HRG1.out HB.out))
                   rintro e w40 ⟨v500, rfl, ho0, hb⟩
                   refine ⟨_, rfl, ?_⟩
                   have n0_ := Aside0.mk (Kd.R_elder' (by exact Kd.R_up <| HO_7.out) (Kd.R_base ho0) hb)
                   have n1_ := Aside0.mk (Kd.R_lower (Kd.R_new' ho0 (Kd.R_lt (by exact Kd.R_up <| HO_7.out))) (below_size (by first | exact ai | (with_reducible exact HB.out) : Below w.heap.size w _)))
                   have n2_ := Aside0.mk (below_step (by first | exact ai | (with_reducible exact HB.out) : Below w.heap.size w _) hb)
                   clear HO_7
                   clear HB
                   have HO_7 := n0_
                   have HO501 := n1_
                   have HB := n2_
                   clear n0_ n1_ n2_
                   (try clear hb)
                   (try clear hb2)
                   (try clear hk)
                   (try clear hi)
                   (try clear ho0)
                   refine hK.out _ _ trivial (fun hHeld => ?_)
                   clear hK K
                   refine norm_ (a' := ?_) ?_ ?_
                   rotate_left
                   ·show Act.put _ (some 77) _ = _
                    simp only [Act.put, List.setIfInBounds_toArray, List.set_cons_zero, List.set_cons_succ, i64_w, i32_w]
                    rfl
                   refine pure_ (i := 10) (N := some 67) (v := ?_) (a' := ?_) #[true, true, true, true, true, true, true, true, true, true, true, false, false, false, false, false, false] rfl rfl (any_of HT_.out (by kernel_rfl)) (fun _ _ _ h => h) (Or.inl ⟨by rfl, ?_⟩) ?_ ?_
                   rotate_left
                   ·intro w'
                    go_simp
                    with_reducible rfl
                   rotate_left
                   ·simp only [Act.put, List.setIfInBounds_toArray, List.set_cons_zero, List.set_cons_succ, i64_w, i32_w]
                    rfl
                   refine pure_ (i := 11) (N := some 78) (v := ?_) (a' := ?_) #[true, true, true, true, true, true, true, true, true, true, true, true, false, false, false, false, false] rfl rfl (any_of HT_.out (by kernel_rfl)) (fun _ _ _ h => h) (Or.inl ⟨by rfl, ?_⟩) ?_ ?_
                   rotate_left
                   ·intro w'
                    go_simp
                    with_reducible rfl
                   rotate_left
                   ·simp only [Act.put, List.setIfInBounds_toArray, List.set_cons_zero, List.set_cons_succ, i64_w, i32_w]
                    rfl
                   refine pure_ (i := 12) (N := some 79) (v := ?_) (a' := ?_) #[true, true, true, true, true, true, true, true, true, true, true, true, true, false, false, false, false] rfl rfl (any_of HT_.out (by kernel_rfl)) (fun _ _ _ h => h) (Or.inl ⟨by rfl, ?_⟩) ?_ ?_
                   rotate_left
                   ·intro w'
                    go_simp
                    with_reducible rfl
                   rotate_left
                   ·simp only [Act.put, List.setIfInBounds_toArray, List.set_cons_zero, List.set_cons_succ, i64_w, i32_w]
                    rfl
                   refine pure_ (i := 13) (N := some 80) (v := ?_) (a' := ?_) #[true, true, true, true, true, true, true, true, true, true, true, true, true, true, false, false, false] rfl rfl (any_of HT_.out (by kernel_rfl)) (fun _ _ _ h => h) (Or.inl ⟨by rfl, ?_⟩) ?_ ?_
                   rotate_left
                   ·intro w'
                    go_simp
                    with_reducible rfl
                   rotate_left
                   ·simp only [Act.put, List.setIfInBounds_toArray, List.set_cons_zero, List.set_cons_succ, i64_w, i32_w]
                    rfl
                   refine pure_ (i := 14) (N := some 13) (v := ?_) (a' := ?_) #[true, true, true, true, true, true, true, true, true, true, true, true, true, true, true, false, false] rfl rfl (any_of HT_.out (by kernel_rfl)) (fun _ _ _ h => h) (Or.inl ⟨by rfl, ?_⟩) ?_ ?_
                   rotate_left
                   ·intro w'
                    go_simp
                    with_reducible rfl
                   rotate_left
                   ·simp only [Act.put, List.setIfInBounds_toArray, List.set_cons_zero, List.set_cons_succ, i64_w, i32_w]
                    rfl
                   refine pure_ (i := 15) (N := some 14) (v := ?_) (a' := ?_) #[true, true, true, true, true, true, true, true, true, true, true, true, true, true, true, true, false] rfl rfl (any_of HT_.out (by kernel_rfl)) (fun _ _ _ h => h) (Or.inl ⟨by rfl, ?_⟩) ?_ ?_
                   rotate_left
                   ·intro w'
                    go_simp
                    with_reducible rfl
                   rotate_left
                   ·simp only [Act.put, List.setIfInBounds_toArray, List.set_cons_zero, List.set_cons_succ, i64_w, i32_w]
                    rfl
                   refine pure_ (i := 16) (N := some 15) (v := ?_) (a' := ?_) #[true, true, true, true, true, true, true, true, true, true, true, true, true, true, true, true, true] rfl rfl (any_of HT_.out (by kernel_rfl)) (fun _ _ _ h => h) (Or.inl ⟨by rfl, ?_⟩) ?_ ?_
                   rotate_left
                   ·intro w'
                    go_simp
                    with_reducible rfl
                   rotate_left
                   ·simp only [Act.put, List.setIfInBounds_toArray, List.set_cons_zero, List.set_cons_succ, i64_w, i32_w]
                    rfl
                   refine done_ (done_of HT_.out (by kernel_rfl)) ?_
                   obtain ⟨Ao41, co41, eo41⟩ := Kd.R_slice HO501.out
                   subst eo41
                   try go_wp2_with (first | (go_at_call 15; (with_reducible refine (kindlingref07_Same.calls kj23 _ _ t487 _ _ t497 false true _ ?side1 ?side2 ?side3 ?side4 A36.out).mono ?_); (case side1 => exact Kd.C_up <| (Kd.R_reads' HO_7.out).2.2); (case side2 => exact (Kd.R_reads' HO_7.out).2.1); (case side3 => exact Kd.C_up <| (Kd.R_reads' HO501.out).2.2); (case side4 => exact (Kd.R_reads' HO501.out).2.1); rintro e w42 ⟨rfl, hb⟩; have n0_ := Aside0.mk (Kd.R_below (by exact Kd.R_up <| HO_7.out) hb); have n1_ := Aside0.mk (Kd.R_below (by exact Kd.R_up <| HO501.out) hb); have n2_ := Aside0.mk (below_step (by first | exact ai | (with_reducible exact HB.out) : Below w.heap.size w _) hb); clear HO_7; clear HO501; clear HB; have HO_7 := n0_; have HO501 := n1_; have HB := n2_; clear n0_ n1_ n2_; (try clear hb); (try clear hb2); (try clear hk); (try clear hi)) | (go_at_call 12; (with_reducible refine (kindlinglaw07_known.calls kj23  t503 _ ?side1 ?side2 A38.out).mono ?_); (case side1 => exact Kd.C_up <| (Kd.C_below HRG0.out HB.out)); (case side2 => exact Kd.C_up <| (Kd.C_below HRG1.out HB.out)); rintro e w43 ⟨rfl, hb⟩; have n0_ := Aside0.mk (Kd.R_below (by exact Kd.R_up <| HO_7.out) hb); have n1_ := Aside0.mk (Kd.R_below (by exact Kd.R_up <| HO501.out) hb); have n2_ := Aside0.mk (below_step (by first | exact ai | (with_reducible exact HB.out) : Below w.heap.size w _) hb); clear HO_7; clear HO501; clear HB; have HO_7 := n0_; have HO501 := n1_; have HB := n2_; clear n0_ n1_ n2_; (try clear hb); (try clear hb2); (try clear hk); (try clear hi)))
                   go_ret
                   exact ⟨by first | rfl | (simp [errW_none, errW_some] <;> rfl) | (simp [*, errW_none, errW_some] <;> rfl), by first | exact ai | (with_reducible exact HB.out)⟩
                  ·replace c37 := Bool.eq_false_iff.mpr c37
                   subst c37
                   have H1 : (some false) = some r := by rw [if_neg (show ¬ (false = true) by decide)] at H; exact H
                   exact absurd (H1.trans (congrArg some hr)) (by simp)
                 ·rw [if_neg c35] at H
                  exact absurd (H.trans (congrArg some hr)) (by simp)
                ·rw [if_neg c33] at H
                 exact absurd H (by simp)
               ·rw [if_neg c30] at H
                exact absurd H (by simp)
              ·rw [if_neg c29] at H
               exact absurd H (by simp)
             ·rw [if_neg c28] at H
              exact absurd H (by simp)
         ·rw [if_neg c23] at H
          exact absurd H (by simp)
        ·rw [if_neg c22] at H
         exact absurd H (by simp)


end Go.Proofs.YtnihjlnnllngeaaDoor.PL
