-- Printed by kprint.py, lay.py, programs of this claim's author over the kit's printer.
import Derived.Test.YtnihjlnnllngeaaDoorF0
import Derived.Test.YtnihjlnnllngeaaDoorFScan
import Derived.Test.YtnihjlnnllngeaaDoorFPrint
namespace Go.Proofs.YtnihjlnnllngeaaDoor.PL
open Go.RowKit Go.Proofs.YtnihjlnnllngeaaDoorW.PrintWords Go.Proofs.YtnihjlnnllngeaaDoorW.PrintLast Go.Proofs.YtnihjlnnllngeaaDoorW.PrintMore
attribute [local go_sem] max2_int min2_int max_two min_two max_three min_three max_four min_four   -- for this text's walks alone
set_option linter.unusedVariables false
set_option linter.unusedSimpArgs false

attribute [local go_sem high] eqA32
/-! ### kindlinglaw07_known: function 12 -/
def kindlinglaw07_known.f (k : Nat)  : Option (Bool) := (lex_Scan.f k (⟨#[118, 97, 108, 32, 120, 39, 32, 61, 32, 126, 51, 59]⟩ : ByteArray)).bind fun bt200 => ((lex_Scan.f k (⟨#[97, 32, 35, 32, 98]⟩ : ByteArray)).bind fun bt205 => ((lex_Print.f k (([(⟨3, (⟨#[97]⟩ : ByteArray), 0, 0⟩ : S32), (⟨2, (⟨#[10]⟩ : ByteArray), 0, 0⟩ : S32)] : List (S32)))).bind fun bt213 => (if bt200.2.2 = 0 then (if bt200.2.1 = 0 then (if (bt200.1.length : Int) = 7 then (if 1 < (bt200.1.length : Int) then (if (((rd_T32 bt200.1 1).f0) == 3 && ((((rd_T32 bt200.1 1).f1).toList) == ([120, 39] : List UInt8) && (((rd_T32 bt200.1 1).f2) == 0 && (((rd_T32 bt200.1 1).f3) == 4)))) = true then (if 4 < (bt200.1.length : Int) then (if ((rd_T32 bt200.1 4).f2) = 3 then (if 6 < (bt200.1.length : Int) then (if (((rd_T32 bt200.1 6).f0) == 0 && ((((rd_T32 bt200.1 6).f1).toList) == ([] : List UInt8) && (((rd_T32 bt200.1 6).f2) == 0 && (((rd_T32 bt200.1 6).f3) == 12)))) = true then (if bt205.2.2 = 70 then (if bt205.2.1 = 2 then (if bt213.2 = 0 then (some (bt213.1.toList == ([97, 32, 34, 92, 110, 34] : List UInt8))) else (some false)) else (some false)) else (some false)) else (some false)) else (none)) else (some false)) else (none)) else (some false)) else (none)) else (some false)) else (some false)) else (some false))))
theorem kindlinglaw07_known.mono : ∀ k, LeO (kindlinglaw07_known.f k ) (kindlinglaw07_known.f (k + 1) ) := by
 intro  k
 unfold kindlinglaw07_known.f
 repeat' first
   | (with_reducible exact lex_Print.mono _ _)
   | (with_reducible exact lex_Scan.mono _ _)
   | (with_reducible exact LeO.refl _)
   | (with_reducible exact LeO.none _)
   | (with_reducible refine LeO.ite ?_ ?_)
   | (with_reducible refine LeO.bind ?_ (fun _ => ?_))
   | exact lex_Print.mono _ _
   | exact lex_Scan.mono _ _
   | exact LeO.none _
   | refine LeO.ite ?_ ?_
   | refine LeO.bind ?_ (fun _ => ?_)
set_option maxHeartbeats 8000000 in
set_option maxRecDepth 100000 in
theorem kindlinglaw07_known.callsT (k : Nat)  (r : Bool) (w : World) (hrG0 : Kd.C Kd.string w AG0 lG0.length lG0) (hrG1 : Kd.C Kd.string w AG1 lG1.length lG1) (hr : r = true) (h : kindlinglaw07_known.f k  = some r) :
  Calls Tryd.prog 12 #[] w fun e w' => e = .returned (.bool r) ∧ Below w.heap.size w w' := by
 have hu32 := Tryd.underlying32
 have HRG0 := Aside0.mk hrG0
 have HCG0 := Aside0.mk (show lG0.length ≤ cG0 by decide)
 clear hrG0
 have HRG1 := Aside0.mk hrG1
 have HCG1 := Aside0.mk (show lG1.length ≤ cG1 by decide)
 clear hrG1
 have HB := Aside0.mk (Below.refl w.heap.size w)
 have H : ((lex_Scan.f k (⟨#[118, 97, 108, 32, 120, 39, 32, 61, 32, 126, 51, 59]⟩ : ByteArray)).bind fun bt200 => ((lex_Scan.f k (⟨#[97, 32, 35, 32, 98]⟩ : ByteArray)).bind fun bt205 => ((lex_Print.f k (([(⟨3, (⟨#[97]⟩ : ByteArray), 0, 0⟩ : S32), (⟨2, (⟨#[10]⟩ : ByteArray), 0, 0⟩ : S32)] : List (S32)))).bind fun bt213 => (if bt200.2.2 = 0 then (if bt200.2.1 = 0 then (if (bt200.1.length : Int) = 7 then (if 1 < (bt200.1.length : Int) then (if (((rd_T32 bt200.1 1).f0) == 3 && ((((rd_T32 bt200.1 1).f1).toList) == ([120, 39] : List UInt8) && (((rd_T32 bt200.1 1).f2) == 0 && (((rd_T32 bt200.1 1).f3) == 4)))) = true then (if 4 < (bt200.1.length : Int) then (if ((rd_T32 bt200.1 4).f2) = 3 then (if 6 < (bt200.1.length : Int) then (if (((rd_T32 bt200.1 6).f0) == 0 && ((((rd_T32 bt200.1 6).f1).toList) == ([] : List UInt8) && (((rd_T32 bt200.1 6).f2) == 0 && (((rd_T32 bt200.1 6).f3) == 12)))) = true then (if bt205.2.2 = 70 then (if bt205.2.1 = 2 then (if bt213.2 = 0 then (some (bt213.1.toList == ([97, 32, 34, 92, 110, 34] : List UInt8))) else (some false)) else (some false)) else (some false)) else (some false)) else (none)) else (some false)) else (none)) else (some false)) else (none)) else (some false)) else (some false)) else (some false))))) = some r := h
 clear h
 replace H := Option.bind_eq_some_iff.mp H
 obtain ⟨⟨t200, t201, t202⟩, A10, H⟩ := H
 replace H : ((lex_Scan.f k (⟨#[97, 32, 35, 32, 98]⟩ : ByteArray)).bind fun bt205 => ((lex_Print.f k (([(⟨3, (⟨#[97]⟩ : ByteArray), 0, 0⟩ : S32), (⟨2, (⟨#[10]⟩ : ByteArray), 0, 0⟩ : S32)] : List (S32)))).bind fun bt213 => (if t202 = 0 then (if t201 = 0 then (if (t200.length : Int) = 7 then (if 1 < (t200.length : Int) then (if (((rd_T32 t200 1).f0) == 3 && ((((rd_T32 t200 1).f1).toList) == ([120, 39] : List UInt8) && (((rd_T32 t200 1).f2) == 0 && (((rd_T32 t200 1).f3) == 4)))) = true then (if 4 < (t200.length : Int) then (if ((rd_T32 t200 4).f2) = 3 then (if 6 < (t200.length : Int) then (if (((rd_T32 t200 6).f0) == 0 && ((((rd_T32 t200 6).f1).toList) == ([] : List UInt8) && (((rd_T32 t200 6).f2) == 0 && (((rd_T32 t200 6).f3) == 12)))) = true then (if bt205.2.2 = 70 then (if bt205.2.1 = 2 then (if bt213.2 = 0 then (some (bt213.1.toList == ([97, 32, 34, 92, 110, 34] : List UInt8))) else (some false)) else (some false)) else (some false)) else (some false)) else (none)) else (some false)) else (none)) else (some false)) else (none)) else (some false)) else (some false)) else (some false)))) = some r := H
 have A1 := Aside0.mk A10
 clear A10
 replace H := Option.bind_eq_some_iff.mp H
 obtain ⟨⟨t205, t206, t207⟩, A20, H⟩ := H
 replace H : ((lex_Print.f k (([(⟨3, (⟨#[97]⟩ : ByteArray), 0, 0⟩ : S32), (⟨2, (⟨#[10]⟩ : ByteArray), 0, 0⟩ : S32)] : List (S32)))).bind fun bt213 => (if t202 = 0 then (if t201 = 0 then (if (t200.length : Int) = 7 then (if 1 < (t200.length : Int) then (if (((rd_T32 t200 1).f0) == 3 && ((((rd_T32 t200 1).f1).toList) == ([120, 39] : List UInt8) && (((rd_T32 t200 1).f2) == 0 && (((rd_T32 t200 1).f3) == 4)))) = true then (if 4 < (t200.length : Int) then (if ((rd_T32 t200 4).f2) = 3 then (if 6 < (t200.length : Int) then (if (((rd_T32 t200 6).f0) == 0 && ((((rd_T32 t200 6).f1).toList) == ([] : List UInt8) && (((rd_T32 t200 6).f2) == 0 && (((rd_T32 t200 6).f3) == 12)))) = true then (if t207 = 70 then (if t206 = 2 then (if bt213.2 = 0 then (some (bt213.1.toList == ([97, 32, 34, 92, 110, 34] : List UInt8))) else (some false)) else (some false)) else (some false)) else (some false)) else (none)) else (some false)) else (none)) else (some false)) else (none)) else (some false)) else (some false)) else (some false))) = some r := H
 have A2 := Aside0.mk A20
 clear A20
 obtain ⟨y210, hy210⟩ : ∃ y_ : List (S32), y_ = (([(⟨3, (⟨#[97]⟩ : ByteArray), 0, 0⟩ : S32), (⟨2, (⟨#[10]⟩ : ByteArray), 0, 0⟩ : S32)] : List (S32))) := ⟨_, rfl⟩
 replace H : ((lex_Print.f k y210).bind fun bt213 => (if t202 = 0 then (if t201 = 0 then (if (t200.length : Int) = 7 then (if 1 < (t200.length : Int) then (if (((rd_T32 t200 1).f0) == 3 && ((((rd_T32 t200 1).f1).toList) == ([120, 39] : List UInt8) && (((rd_T32 t200 1).f2) == 0 && (((rd_T32 t200 1).f3) == 4)))) = true then (if 4 < (t200.length : Int) then (if ((rd_T32 t200 4).f2) = 3 then (if 6 < (t200.length : Int) then (if (((rd_T32 t200 6).f0) == 0 && ((((rd_T32 t200 6).f1).toList) == ([] : List UInt8) && (((rd_T32 t200 6).f2) == 0 && (((rd_T32 t200 6).f3) == 12)))) = true then (if t207 = 70 then (if t206 = 2 then (if bt213.2 = 0 then (some (bt213.1.toList == ([97, 32, 34, 92, 110, 34] : List UInt8))) else (some false)) else (some false)) else (some false)) else (some false)) else (none)) else (some false)) else (none)) else (some false)) else (none)) else (some false)) else (some false)) else (some false))) = some r := by first | (rw [hy210]; with_reducible exact H) | (have H2_ := (Option.bind_some _ _).symm.trans H; rw [hy210]; with_reducible exact H2_) | (have H2_ := (Option.bind_some _ _).symm.trans H; with_reducible exact H2_) | with_reducible exact H | (rw [hy210]; exact H) | exact H
 have Ny210 := Aside0.mk hy210
 clear hy210
 replace H := Option.bind_eq_some_iff.mp H
 obtain ⟨⟨t213, t214⟩, A30, H⟩ := H
 replace H : (if t202 = 0 then (if t201 = 0 then (if (t200.length : Int) = 7 then (if 1 < (t200.length : Int) then (if (((rd_T32 t200 1).f0) == 3 && ((((rd_T32 t200 1).f1).toList) == ([120, 39] : List UInt8) && (((rd_T32 t200 1).f2) == 0 && (((rd_T32 t200 1).f3) == 4)))) = true then (if 4 < (t200.length : Int) then (if ((rd_T32 t200 4).f2) = 3 then (if 6 < (t200.length : Int) then (if (((rd_T32 t200 6).f0) == 0 && ((((rd_T32 t200 6).f1).toList) == ([] : List UInt8) && (((rd_T32 t200 6).f2) == 0 && (((rd_T32 t200 6).f3) == 12)))) = true then (if t207 = 70 then (if t206 = 2 then (if t214 = 0 then (some (t213.toList == ([97, 32, 34, 92, 110, 34] : List UInt8))) else (some false)) else (some false)) else (some false)) else (some false)) else (none)) else (some false)) else (none)) else (some false)) else (none)) else (some false)) else (some false)) else (some false)) = some r := H
 have A3 := Aside0.mk A30
 clear A30
 by_cases c4 : t202 = 0
 ·rw [if_pos c4] at H
  have c4b0 : (t202 == 0) = true := beq_iff_eq.mpr c4
  have c4b1 : (t202 != 0) = false := bne_eq_false_iff_eq.mpr c4
  clear c4
  by_cases c5 : t201 = 0
  ·rw [if_pos c5] at H
   have c5b0 : (t201 == 0) = true := beq_iff_eq.mpr c5
   have c5b1 : (t201 != 0) = false := bne_eq_false_iff_eq.mpr c5
   clear c5
   by_cases c6 : (t200.length : Int) = 7
   ·rw [if_pos c6] at H
    have c6b0 : ((t200.length : Int) == 7) = true := beq_iff_eq.mpr c6
    have c6b1 : ((t200.length : Int) != 7) = false := bne_eq_false_iff_eq.mpr c6
    clear c6
    by_cases c7 : 1 < (t200.length : Int)
    ·rw [if_pos c7] at H
     have c7b0 : decide (1 < (t200.length : Int)) = true := decide_eq_true c7
     have c7b1 : decide (1 < t200.length) = true := decide_eq_true (by omega)
     clear c7
     by_cases c8 : (((rd_T32 t200 1).f0) == 3 && ((((rd_T32 t200 1).f1).toList) == ([120, 39] : List UInt8) && (((rd_T32 t200 1).f2) == 0 && (((rd_T32 t200 1).f3) == 4)))) = true
     ·rw [if_pos c8] at H
      have c8b0 : (((rd_T32 t200 1).f0) == 3 && ((((rd_T32 t200 1).f1).toList) == ([120, 39] : List UInt8) && (((rd_T32 t200 1).f2) == 0 && (((rd_T32 t200 1).f3) == 4)))) = true := c8
      (try (have c8b1 : decide (((rd_T32 t200 1).f0) = 3 && ((((rd_T32 t200 1).f1).toList) == ([120, 39] : List UInt8) && (((rd_T32 t200 1).f2) == 0 && (((rd_T32 t200 1).f3) == 4)))) = true := by simpa using c8))
      (try (have c8b2 : (((rd_T32 t200 1).f0) == 3 && ((((rd_T32 t200 1).f1).toList) == ([120, 39] : List UInt8) && (((rd_T32 t200 1).f2) == 0 && (((rd_T32 t200 1).f3) == 4)))) = true := by simpa using c8))
      clear c8
      by_cases c9 : 4 < (t200.length : Int)
      ·rw [if_pos c9] at H
       have c9b0 : decide (4 < (t200.length : Int)) = true := decide_eq_true c9
       have c9b1 : decide (4 < t200.length) = true := decide_eq_true (by omega)
       clear c9
       by_cases c10 : ((rd_T32 t200 4).f2) = 3
       ·rw [if_pos c10] at H
        have c10b0 : (((rd_T32 t200 4).f2) == 3) = true := beq_iff_eq.mpr c10
        have c10b1 : (((rd_T32 t200 4).f2) != 3) = false := bne_eq_false_iff_eq.mpr c10
        clear c10
        by_cases c11 : 6 < (t200.length : Int)
        ·rw [if_pos c11] at H
         have c11b0 : decide (6 < (t200.length : Int)) = true := decide_eq_true c11
         have c11b1 : decide (6 < t200.length) = true := decide_eq_true (by omega)
         clear c11
         by_cases c12 : (((rd_T32 t200 6).f0) == 0 && ((((rd_T32 t200 6).f1).toList) == ([] : List UInt8) && (((rd_T32 t200 6).f2) == 0 && (((rd_T32 t200 6).f3) == 12)))) = true
         ·rw [if_pos c12] at H
          have c12b0 : (((rd_T32 t200 6).f0) == 0 && ((((rd_T32 t200 6).f1).toList) == ([] : List UInt8) && (((rd_T32 t200 6).f2) == 0 && (((rd_T32 t200 6).f3) == 12)))) = true := c12
          (try (have c12b1 : decide (((rd_T32 t200 6).f0) = 0 && ((((rd_T32 t200 6).f1).toList) == ([] : List UInt8) && (((rd_T32 t200 6).f2) == 0 && (((rd_T32 t200 6).f3) == 12)))) = true := by simpa using c12))
          (try (have c12b2 : (((rd_T32 t200 6).f0) == 0 && ((((rd_T32 t200 6).f1).toList) == ([] : List UInt8) && (((rd_T32 t200 6).f2) == 0 && (((rd_T32 t200 6).f3) == 12)))) = true := by simpa using c12))
          clear c12
          by_cases c13 : t207 = 70
          ·rw [if_pos c13] at H
           have c13b0 : (t207 == 70) = true := beq_iff_eq.mpr c13
           have c13b1 : (t207 != 70) = false := bne_eq_false_iff_eq.mpr c13
           clear c13
           by_cases c14 : t206 = 2
           ·rw [if_pos c14] at H
            have c14b0 : (t206 == 2) = true := beq_iff_eq.mpr c14
            have c14b1 : (t206 != 2) = false := bne_eq_false_iff_eq.mpr c14
            clear c14
            by_cases c15 : t214 = 0
            ·rw [if_pos c15] at H
             have c15b0 : (t214 == 0) = true := beq_iff_eq.mpr c15
             have c15b1 : (t214 != 0) = false := bne_eq_false_iff_eq.mpr c15
             clear c15
             obtain rfl := Option.some.inj H
             go_enter Tryd.func12, Tryd.ntmps12
             go_wp2_with (first | ((with_reducible refine gate_callee (f := 13) rfl ?_); refine goesL_ (some 10) rfl rfl Tryd.func13 (by kernel_rfl) rfl #[.string (⟨#[118, 97, 108, 32, 120, 39, 32, 61, 32, 126, 51, 59]⟩ : ByteArray)] rfl (by (try simp only [List.map_toArray, List.map_cons, List.map_nil]); first | done | rfl | (simp only [List.length_drop, List.length_take]; rfl)) ?_; (with_reducible refine (lex_Scan.calls k (⟨#[118, 97, 108, 32, 120, 39, 32, 61, 32, 126, 51, 59]⟩ : ByteArray) t200 t201 t202 _ ?side1 ?side2 A1.out).mono ?_); (case side1 => exact Kd.C_up <| HRG0.out); (case side2 => exact Kd.C_up <| HRG1.out); rintro e w16 ⟨v203, rfl, ho0, hb⟩; refine ⟨_, rfl, ?_⟩; have n0_ := Aside0.mk (Kd.R_lower ho0 (below_size (by first | exact ai | (with_reducible exact HB.out) : Below w.heap.size w _))); have n1_ := Aside0.mk (below_step (by first | exact ai | (with_reducible exact HB.out) : Below w.heap.size w _) hb); clear HB; have HO204 := n0_; have HB := n1_; clear n0_ n1_; (try clear hb); (try clear hb2); (try clear hk); (try clear hi); (try clear ho0)) | ((with_reducible refine gate_callee (f := 13) rfl ?_); refine goesL_ (some 15) rfl rfl Tryd.func13 (by kernel_rfl) rfl #[.string (⟨#[97, 32, 35, 32, 98]⟩ : ByteArray)] rfl (by (try simp only [List.map_toArray, List.map_cons, List.map_nil]); first | done | rfl | (simp only [List.length_drop, List.length_take]; rfl)) ?_; (with_reducible refine (lex_Scan.calls k (⟨#[97, 32, 35, 32, 98]⟩ : ByteArray) t205 t206 t207 _ ?side1 ?side2 A2.out).mono ?_); (case side1 => exact Kd.C_up <| (Kd.C_below HRG0.out HB.out)); (case side2 => exact Kd.C_up <| (Kd.C_below HRG1.out HB.out)); rintro e w17 ⟨v208, rfl, ho0, hb⟩; refine ⟨_, rfl, ?_⟩; have n0_ := Aside0.mk (Kd.R_elder' (by exact Kd.R_up <| HO204.out) (Kd.R_base ho0) hb); have n1_ := Aside0.mk (Kd.R_lower (Kd.R_new' ho0 (Kd.R_lt (by exact Kd.R_up <| HO204.out))) (below_size (by first | exact ai | (with_reducible exact HB.out) : Below w.heap.size w _))); have n2_ := Aside0.mk (below_step (by first | exact ai | (with_reducible exact HB.out) : Below w.heap.size w _) hb); clear HO204; clear HB; have HO204 := n0_; have HO209 := n1_; have HB := n2_; clear n0_ n1_ n2_; (try clear hb); (try clear hb2); (try clear hk); (try clear hi); (try clear ho0)) | ((with_reducible refine gate_dst (N := 22) rfl ?_); (try (refine gate_guard (by rfl) ?_; dsimp only)); refine Kd.R_lit k32 _ 32 ?hg (N := 22) ?hd (xs := ([(⟨3, (⟨#[97]⟩ : ByteArray), 0, 0⟩ : S32), (⟨2, (⟨#[10]⟩ : ByteArray), 0, 0⟩ : S32)] : List (S32))) (inner := [.int .i64 3, .string (⟨#[97]⟩ : ByteArray), .int .i64 0, .int .i64 0, .int .i64 2, .string (⟨#[10]⟩ : ByteArray), .int .i64 0, .int .i64 0]) (ok := fun _ => True) (okp := fun _ => True) ?hr ?hp (fun _ hk => hk) trivial (Below.refl _ _) (Nat.le_refl _) (by simp) ?_; (case hd => rfl); (case hg => rfl); (case hr => first | (go_simp; done) | (go_simp; rfl)); (case hp => exact (Reps.c4 (show Kd.M k32 _ _ _ (⟨3, (⟨#[97]⟩ : ByteArray), 0, 0⟩ : S32) [.int .i64 3, .string (⟨#[97]⟩ : ByteArray), .int .i64 0, .int .i64 0] from (k32_mkM _ _ _ (⟨3, (⟨#[97]⟩ : ByteArray), 0, 0⟩ : S32) )) (Reps.c4 (show Kd.M k32 _ _ _ (⟨2, (⟨#[10]⟩ : ByteArray), 0, 0⟩ : S32) [.int .i64 2, .string (⟨#[10]⟩ : ByteArray), .int .i64 0, .int .i64 0] from (k32_mkM _ _ _ (⟨2, (⟨#[10]⟩ : ByteArray), 0, 0⟩ : S32) )) (Reps.none _ _)))); intro v211 w18 ho19 hb hg_ hnew_; clear hg_ hnew_; (first | rw [← Ny210.out] at ho19 | (simp only [Int.reduceToNat] at ho19; rw [← Ny210.out] at ho19)); have n0_ := Aside0.mk (Kd.R_elder' (by exact Kd.R_up <| HO204.out) (Kd.R_base ho19) hb); have n1_ := Aside0.mk (Kd.R_elder' (by exact Kd.R_up <| HO209.out) (Kd.R_base ho19) hb); have n2_ := Aside0.mk (Kd.R_lower (Kd.R_new' (Kd.R_new' ho19 (Kd.R_lt (by exact Kd.R_up <| HO204.out))) (Kd.R_lt (by exact Kd.R_up <| HO209.out))) (below_size (by first | exact ai | (with_reducible exact HB.out) : Below w.heap.size w _))); have n3_ := Aside0.mk (below_step (by first | exact ai | (with_reducible exact HB.out) : Below w.heap.size w _) hb); clear HO204; clear HO209; clear HB; have HO204 := n0_; have HO209 := n1_; have HO212 := n2_; have HB := n3_; clear n0_ n1_ n2_ n3_; clear hb ho19; obtain ⟨Ao20, co20, eo20⟩ := Kd.R_slice HO212.out; subst eo20) | ((with_reducible refine gate_callee (f := 20) rfl ?_); refine goesL_ (some 23) rfl rfl Tryd.func20 (by kernel_rfl) rfl #[.slice Ao20 y210.length co20] rfl (by (try simp only [List.map_toArray, List.map_cons, List.map_nil]); first | done | rfl | (simp only [List.length_drop, List.length_take]; rfl)) ?_; (with_reducible refine (lex_Print.calls k _ _ y210 t213 t214 _ ?side1 ?side2 ?side3 ?side4 A3.out).mono ?_); (case side1 => exact Kd.C_up <| (Kd.R_reads' HO212.out).2.2); (case side2 => exact (Kd.R_reads' HO212.out).2.1); (case side3 => exact Kd.C_up <| (Kd.C_below HRG0.out HB.out)); (case side4 => exact Kd.C_up <| (Kd.C_below HRG1.out HB.out)); rintro e w21 ⟨rfl, hb⟩; refine ⟨_, rfl, ?_⟩; have n0_ := Aside0.mk (Kd.R_below (by exact Kd.R_up <| HO204.out) hb); have n1_ := Aside0.mk (Kd.R_below (by exact Kd.R_up <| HO209.out) hb); have n2_ := Aside0.mk (Kd.R_below (by exact Kd.R_up <| HO212.out) hb); have n3_ := Aside0.mk (below_step (by first | exact ai | (with_reducible exact HB.out) : Below w.heap.size w _) hb); clear HO204; clear HO209; clear HO212; clear HB; have HO204 := n0_; have HO209 := n1_; have HO212 := n2_; have HB := n3_; clear n0_ n1_ n2_ n3_; (try clear hb); (try clear hb2); (try clear hk); (try clear hi); obtain ⟨Ao22, co22, eo22⟩ := Kd.R_slice HO204.out; subst eo22; have p215 : 0 ≤ (1 : Int) := (by omega); have q215 : 1 < (t200.length : Int) := of_decide_eq_true (by first | (with_reducible assumption) | assumption); obtain ⟨ad215, e215, hx215_0, hx215_1, hx215_2, hx215_3⟩ := at_T32 (Kd.R_reads' HO204.out).2.2 1 p215 q215; cases e215; (try simp only [show (1 : Int).toNat = 1 from rfl, Nat.reduceMul, Nat.reduceEqDiff, Go.Addr.add, ↓reduceIte] at hx215_0); (try simp only [show (1 : Int).toNat = 1 from rfl, Nat.reduceMul, Nat.reduceEqDiff, Go.Addr.add, ↓reduceIte] at hx215_1); (try simp only [show (1 : Int).toNat = 1 from rfl, Nat.reduceMul, Nat.reduceEqDiff, Go.Addr.add, ↓reduceIte] at hx215_2); (try simp only [show (1 : Int).toNat = 1 from rfl, Nat.reduceMul, Nat.reduceEqDiff, Go.Addr.add, ↓reduceIte] at hx215_3); have qi215 : (1 < t200.length) = True := eq_true (by omega); (try rw [show ((1 : Int)).toNat = 1 from rfl] at hx215_0); (try rw [show 1 * 4 = 4 from rfl] at hx215_0); (try rw [show ((1 : Int)).toNat = 1 from rfl] at hx215_1); (try rw [show 1 * 4 = 4 from rfl] at hx215_1); (try rw [show ((1 : Int)).toNat = 1 from rfl] at hx215_2); (try rw [show 1 * 4 = 4 from rfl] at hx215_2); (try rw [show ((1 : Int)).toNat = 1 from rfl] at hx215_3); (try rw [show 1 * 4 = 4 from rfl] at hx215_3); replace p215 := eq_true p215; replace q215 := eq_true q215; have p216 : 0 ≤ (4 : Int) := (by omega); have q216 : 4 < (t200.length : Int) := of_decide_eq_true (by first | (with_reducible assumption) | assumption); obtain ⟨ad216, e216, hx216_0, hx216_1, hx216_2, hx216_3⟩ := at_T32 (Kd.R_reads' HO204.out).2.2 4 p216 q216; obtain rfl : ad215 = ad216 := (by injection e216); (try simp only [show (4 : Int).toNat = 4 from rfl, Nat.reduceMul, Nat.reduceEqDiff, Go.Addr.add, ↓reduceIte] at hx216_0); (try simp only [show (4 : Int).toNat = 4 from rfl, Nat.reduceMul, Nat.reduceEqDiff, Go.Addr.add, ↓reduceIte] at hx216_1); (try simp only [show (4 : Int).toNat = 4 from rfl, Nat.reduceMul, Nat.reduceEqDiff, Go.Addr.add, ↓reduceIte] at hx216_2); (try simp only [show (4 : Int).toNat = 4 from rfl, Nat.reduceMul, Nat.reduceEqDiff, Go.Addr.add, ↓reduceIte] at hx216_3); have qi216 : (4 < t200.length) = True := eq_true (by omega); (try rw [show ((4 : Int)).toNat = 4 from rfl] at hx216_0); (try rw [show 4 * 4 = 16 from rfl] at hx216_0); (try rw [show ((4 : Int)).toNat = 4 from rfl] at hx216_1); (try rw [show 4 * 4 = 16 from rfl] at hx216_1); (try rw [show ((4 : Int)).toNat = 4 from rfl] at hx216_2); (try rw [show 4 * 4 = 16 from rfl] at hx216_2); (try rw [show ((4 : Int)).toNat = 4 from rfl] at hx216_3); (try rw [show 4 * 4 = 16 from rfl] at hx216_3); replace p216 := eq_true p216; replace q216 := eq_true q216; have p217 : 0 ≤ (6 : Int) := (by omega); have q217 : 6 < (t200.length : Int) := of_decide_eq_true (by first | (with_reducible assumption) | assumption); obtain ⟨ad217, e217, hx217_0, hx217_1, hx217_2, hx217_3⟩ := at_T32 (Kd.R_reads' HO204.out).2.2 6 p217 q217; obtain rfl : ad215 = ad217 := (by injection e217); (try simp only [show (6 : Int).toNat = 6 from rfl, Nat.reduceMul, Nat.reduceEqDiff, Go.Addr.add, ↓reduceIte] at hx217_0); (try simp only [show (6 : Int).toNat = 6 from rfl, Nat.reduceMul, Nat.reduceEqDiff, Go.Addr.add, ↓reduceIte] at hx217_1); (try simp only [show (6 : Int).toNat = 6 from rfl, Nat.reduceMul, Nat.reduceEqDiff, Go.Addr.add, ↓reduceIte] at hx217_2); (try simp only [show (6 : Int).toNat = 6 from rfl, Nat.reduceMul, Nat.reduceEqDiff, Go.Addr.add, ↓reduceIte] at hx217_3); have qi217 : (6 < t200.length) = True := eq_true (by omega); (try rw [show ((6 : Int)).toNat = 6 from rfl] at hx217_0); (try rw [show 6 * 4 = 24 from rfl] at hx217_0); (try rw [show ((6 : Int)).toNat = 6 from rfl] at hx217_1); (try rw [show 6 * 4 = 24 from rfl] at hx217_1); (try rw [show ((6 : Int)).toNat = 6 from rfl] at hx217_2); (try rw [show 6 * 4 = 24 from rfl] at hx217_2); (try rw [show ((6 : Int)).toNat = 6 from rfl] at hx217_3); (try rw [show 6 * 4 = 24 from rfl] at hx217_3); replace p217 := eq_true p217; replace q217 := eq_true q217))
             any_goals (first | (rename_i hx_; exact (hx_ (by simpa using c12b2)).elim) | skip)
             go_ret
             exact ⟨by first | rfl | (simp [errW_none, errW_some] <;> rfl) | (simp [*, errW_none, errW_some] <;> rfl), by first | exact ai | (with_reducible exact HB.out)⟩
            ·rw [if_neg c15] at H
             exact absurd (H.trans (congrArg some hr)) (by simp)
           ·rw [if_neg c14] at H
            exact absurd (H.trans (congrArg some hr)) (by simp)
          ·rw [if_neg c13] at H
           exact absurd (H.trans (congrArg some hr)) (by simp)
         ·rw [if_neg c12] at H
          exact absurd (H.trans (congrArg some hr)) (by simp)
        ·rw [if_neg c11] at H
         exact absurd H (by simp)
       ·rw [if_neg c10] at H
        exact absurd (H.trans (congrArg some hr)) (by simp)
      ·rw [if_neg c9] at H
       exact absurd H (by simp)
     ·rw [if_neg c8] at H
      exact absurd (H.trans (congrArg some hr)) (by simp)
    ·rw [if_neg c7] at H
     exact absurd H (by simp)
   ·rw [if_neg c6] at H
    exact absurd (H.trans (congrArg some hr)) (by simp)
  ·rw [if_neg c5] at H
   exact absurd (H.trans (congrArg some hr)) (by simp)
 ·rw [if_neg c4] at H
  exact absurd (H.trans (congrArg some hr)) (by simp)
theorem kindlinglaw07_known.now : kindlinglaw07_known.f 100 = some true := by kernel_rfl
theorem kindlinglaw07_known.up (k : Nat) (r : Bool) (h : kindlinglaw07_known.f k = some r) : ∀ m, kindlinglaw07_known.f (k + m) = some r
 | 0 => h
 | m + 1 => kindlinglaw07_known.mono (k + m) _ (kindlinglaw07_known.up k r h m)
theorem kindlinglaw07_known.right {k : Nat} {r : Bool} (h : kindlinglaw07_known.f k = some r) : r = true := by
 have h1 := kindlinglaw07_known.up k r h 100
 have h2 := kindlinglaw07_known.up 100 true kindlinglaw07_known.now k
 rw [Nat.add_comm] at h2
 exact Option.some.inj (h1.symm.trans h2)
theorem kindlinglaw07_known.calls (k : Nat)  (r : Bool) (w : World) (hrG0 : Kd.C Kd.string w AG0 lG0.length lG0) (hrG1 : Kd.C Kd.string w AG1 lG1.length lG1) (h : kindlinglaw07_known.f k  = some r) :
  Calls Tryd.prog 12 #[] w fun e w' => e = .returned (.bool r) ∧ Below w.heap.size w w' := kindlinglaw07_known.callsT k r w hrG0 hrG1 (kindlinglaw07_known.right h) h

end Go.Proofs.YtnihjlnnllngeaaDoor.PL
