-- Printed by kprint.py, lay.py, programs of this claim's author over the kit's printer.
import Derived.Test.YtnihjlnnllngeaaDoorF0
import Derived.Test.YtnihjlnnllngeaaDoorFBytes
import Derived.Test.YtnihjlnnllngeaaDoorFScan
import Derived.Test.YtnihjlnnllngeaaDoorFKnown
import Derived.Test.YtnihjlnnllngeaaDoorFRScan
import Derived.Test.YtnihjlnnllngeaaDoorFRSame
namespace Go.Proofs.YtnihjlnnllngeaaDoor.PL
open Go.RowKit Go.Proofs.YtnihjlnnllngeaaDoorW.PrintWords Go.Proofs.YtnihjlnnllngeaaDoorW.PrintLast Go.Proofs.YtnihjlnnllngeaaDoorW.PrintMore
attribute [local go_sem] max2_int min2_int max_two min_two max_three min_three max_four min_four   -- for this text's walks alone
set_option linter.unusedVariables false
set_option linter.unusedSimpArgs false

attribute [local go_sem high] eqA32
/-! ### kindlinglaw07_LexScans: function 3 -/
def kindlinglaw07_LexScans.f (k : Nat) (a0 : ByteArray) : Option (Bool) := (kindlinglaw07_long.f a0).bind fun t297 => (if t297 = true then ((kindlinglaw07_known.f k).bind fun t298 => (some t298)) else ((lex_Scan.f k a0).bind fun bt299 => ((kindlingref07_Scan.f k a0).bind fun bt304 => ((kindlingref07_Same.f k bt299.1 bt304.1 true).bind fun t309 => (if t309 = true then (if bt299.2.1 = bt304.2.1 then (if bt299.2.2 = bt304.2.2 then ((kindlinglaw07_known.f k).bind fun t310 => (some t310)) else (some false)) else (some false)) else (some false))))))
theorem kindlinglaw07_LexScans.mono : ∀ a0 k, LeO (kindlinglaw07_LexScans.f k a0) (kindlinglaw07_LexScans.f (k + 1) a0) := by
 intro a0 k
 unfold kindlinglaw07_LexScans.f
 repeat' first
   | (with_reducible exact kindlinglaw07_known.mono _)
   | (with_reducible exact kindlingref07_Same.mono _ _ _ _)
   | (with_reducible exact kindlingref07_Scan.mono _ _)
   | (with_reducible exact lex_Scan.mono _ _)
   | (with_reducible exact LeO.refl _)
   | (with_reducible exact LeO.none _)
   | (with_reducible refine LeO.ite ?_ ?_)
   | (with_reducible refine LeO.bind ?_ (fun _ => ?_))
   | exact kindlinglaw07_known.mono _
   | exact kindlingref07_Same.mono _ _ _ _
   | exact kindlingref07_Scan.mono _ _
   | exact lex_Scan.mono _ _
   | exact LeO.none _
   | refine LeO.ite ?_ ?_
   | refine LeO.bind ?_ (fun _ => ?_)
set_option maxHeartbeats 8000000 in
set_option maxRecDepth 100000 in
theorem kindlinglaw07_LexScans.calls (k : Nat) (a0 : ByteArray) (r : Bool) (w : World) (hrG0 : Kd.C Kd.string w AG0 lG0.length lG0) (hrG1 : Kd.C Kd.string w AG1 lG1.length lG1) (hr : r = true) (h : kindlinglaw07_LexScans.f k a0 = some r) :
  Calls Tryd.prog 3 #[.string a0] w fun e w' => e = .returned (.bool r) ∧ Below w.heap.size w w' := by
 have HRG0 := Aside0.mk hrG0
 have HCG0 := Aside0.mk (show lG0.length ≤ cG0 by decide)
 clear hrG0
 have HRG1 := Aside0.mk hrG1
 have HCG1 := Aside0.mk (show lG1.length ≤ cG1 by decide)
 clear hrG1
 have HB := Aside0.mk (Below.refl w.heap.size w)
 have H : ((kindlinglaw07_long.f a0).bind fun t297 => (if t297 = true then ((kindlinglaw07_known.f k).bind fun t298 => (some t298)) else ((lex_Scan.f k a0).bind fun bt299 => ((kindlingref07_Scan.f k a0).bind fun bt304 => ((kindlingref07_Same.f k bt299.1 bt304.1 true).bind fun t309 => (if t309 = true then (if bt299.2.1 = bt304.2.1 then (if bt299.2.2 = bt304.2.2 then ((kindlinglaw07_known.f k).bind fun t310 => (some t310)) else (some false)) else (some false)) else (some false))))))) = some r := h
 clear h
 replace H := Option.bind_eq_some_iff.mp H
 obtain ⟨t297, A20, H⟩ := H
 replace H : (if t297 = true then ((kindlinglaw07_known.f k).bind fun t298 => (some t298)) else ((lex_Scan.f k a0).bind fun bt299 => ((kindlingref07_Scan.f k a0).bind fun bt304 => ((kindlingref07_Same.f k bt299.1 bt304.1 true).bind fun t309 => (if t309 = true then (if bt299.2.1 = bt304.2.1 then (if bt299.2.2 = bt304.2.2 then ((kindlinglaw07_known.f k).bind fun t310 => (some t310)) else (some false)) else (some false)) else (some false)))))) = some r := H
 have A2 := Aside0.mk A20
 clear A20
 by_cases c3 : t297 = true
 ·subst c3
  have H1 : ((kindlinglaw07_known.f k).bind fun t298 => (some t298)) = some r := by rw [if_pos rfl] at H; exact H
  clear H
  have H := H1
  clear H1
  replace H := Option.bind_eq_some_iff.mp H
  obtain ⟨t298, A40, H⟩ := H
  replace H : (some t298) = some r := H
  have A4 := Aside0.mk A40
  clear A40
  obtain rfl := Option.some.inj H
  go_enter Tryd.func3, Tryd.ntmps3
  go_wp2_with (first | ((with_reducible refine gate_callee (f := 11) rfl ?_); refine goesL_ (some 10) rfl rfl Tryd.func11 (by kernel_rfl) rfl #[.string a0] rfl (by (try simp only [List.map_toArray, List.map_cons, List.map_nil]); first | done | rfl | (simp only [List.length_drop, List.length_take]; rfl)) ?_; (with_reducible refine (kindlinglaw07_long.calls a0 true _ A2.out).mono ?_); rintro e w' ⟨rfl, ⟨nd, rfl⟩⟩; refine ⟨_, rfl, ?_⟩) | ((with_reducible refine gate_callee (f := 12) rfl ?_); refine goesL_ (some 11) rfl rfl Tryd.func12 (by kernel_rfl) rfl #[] rfl (by (try simp only [List.map_toArray, List.map_cons, List.map_nil]); first | done | rfl | (simp only [List.length_drop, List.length_take]; rfl)) ?_; (with_reducible refine (kindlinglaw07_known.calls k  t298 _ ?side1 ?side2 A4.out).mono ?_); (case side1 => exact Kd.C_up <| HRG0.out); (case side2 => exact Kd.C_up <| HRG1.out); rintro e w5 ⟨rfl, hb⟩; refine ⟨_, rfl, ?_⟩; have n0_ := Aside0.mk (below_step (by first | exact ai | (with_reducible exact HB.out) : Below w.heap.size w _) hb); clear HB; have HB := n0_; clear n0_; (try clear hb); (try clear hb2); (try clear hk); (try clear hi)))
  go_ret
  exact ⟨by first | rfl | (simp [errW_none, errW_some] <;> rfl) | (simp [*, errW_none, errW_some] <;> rfl), by first | exact ai | (with_reducible exact HB.out)⟩
 ·replace c3 := Bool.eq_false_iff.mpr c3
  subst c3
  have H1 : ((lex_Scan.f k a0).bind fun bt299 => ((kindlingref07_Scan.f k a0).bind fun bt304 => ((kindlingref07_Same.f k bt299.1 bt304.1 true).bind fun t309 => (if t309 = true then (if bt299.2.1 = bt304.2.1 then (if bt299.2.2 = bt304.2.2 then ((kindlinglaw07_known.f k).bind fun t310 => (some t310)) else (some false)) else (some false)) else (some false))))) = some r := by rw [if_neg (show ¬ (false = true) by decide)] at H; exact H
  clear H
  have H := H1
  clear H1
  replace H := Option.bind_eq_some_iff.mp H
  obtain ⟨⟨t299, t300, t301⟩, A60, H⟩ := H
  replace H : ((kindlingref07_Scan.f k a0).bind fun bt304 => ((kindlingref07_Same.f k t299 bt304.1 true).bind fun t309 => (if t309 = true then (if t300 = bt304.2.1 then (if t301 = bt304.2.2 then ((kindlinglaw07_known.f k).bind fun t310 => (some t310)) else (some false)) else (some false)) else (some false)))) = some r := H
  have A6 := Aside0.mk A60
  clear A60
  replace H := Option.bind_eq_some_iff.mp H
  obtain ⟨⟨t304, t305, t306⟩, A70, H⟩ := H
  replace H : ((kindlingref07_Same.f k t299 t304 true).bind fun t309 => (if t309 = true then (if t300 = t305 then (if t301 = t306 then ((kindlinglaw07_known.f k).bind fun t310 => (some t310)) else (some false)) else (some false)) else (some false))) = some r := H
  have A7 := Aside0.mk A70
  clear A70
  replace H := Option.bind_eq_some_iff.mp H
  obtain ⟨t309, A80, H⟩ := H
  replace H : (if t309 = true then (if t300 = t305 then (if t301 = t306 then ((kindlinglaw07_known.f k).bind fun t310 => (some t310)) else (some false)) else (some false)) else (some false)) = some r := H
  have A8 := Aside0.mk A80
  clear A80
  by_cases c9 : t309 = true
  ·subst c9
   have H1 : (if t300 = t305 then (if t301 = t306 then ((kindlinglaw07_known.f k).bind fun t310 => (some t310)) else (some false)) else (some false)) = some r := by rw [if_pos rfl] at H; exact H
   clear H
   have H := H1
   clear H1
   by_cases c10 : t300 = t305
   ·rw [if_pos c10] at H
    have c10b0 : (t300 == t305) = true := beq_iff_eq.mpr c10
    have c10b1 : (t300 != t305) = false := bne_eq_false_iff_eq.mpr c10
    clear c10
    by_cases c11 : t301 = t306
    ·rw [if_pos c11] at H
     have c11b0 : (t301 == t306) = true := beq_iff_eq.mpr c11
     have c11b1 : (t301 != t306) = false := bne_eq_false_iff_eq.mpr c11
     clear c11
     replace H := Option.bind_eq_some_iff.mp H
     obtain ⟨t310, A120, H⟩ := H
     replace H : (some t310) = some r := H
     have A12 := Aside0.mk A120
     clear A120
     obtain rfl := Option.some.inj H
     go_enter Tryd.func3, Tryd.ntmps3
     go_wp2_with (first | ((with_reducible refine gate_callee (f := 11) rfl ?_); refine goesL_ (some 10) rfl rfl Tryd.func11 (by kernel_rfl) rfl #[.string a0] rfl (by (try simp only [List.map_toArray, List.map_cons, List.map_nil]); first | done | rfl | (simp only [List.length_drop, List.length_take]; rfl)) ?_; (with_reducible refine (kindlinglaw07_long.calls a0 false _ A2.out).mono ?_); rintro e w' ⟨rfl, ⟨nd, rfl⟩⟩; refine ⟨_, rfl, ?_⟩) | ((with_reducible refine gate_callee (f := 13) rfl ?_); refine goesL_ (some 14) rfl rfl Tryd.func13 (by kernel_rfl) rfl #[.string a0] rfl (by (try simp only [List.map_toArray, List.map_cons, List.map_nil]); first | done | rfl | (simp only [List.length_drop, List.length_take]; rfl)) ?_; (with_reducible refine (lex_Scan.calls k a0 t299 t300 t301 _ ?side1 ?side2 A6.out).mono ?_); (case side1 => exact Kd.C_up <| HRG0.out); (case side2 => exact Kd.C_up <| HRG1.out); rintro e w13 ⟨v302, rfl, ho0, hb⟩; refine ⟨_, rfl, ?_⟩; have n0_ := Aside0.mk (Kd.R_lower ho0 (below_size (by first | exact ai | (with_reducible exact HB.out) : Below w.heap.size w _))); have n1_ := Aside0.mk (below_step (by first | exact ai | (with_reducible exact HB.out) : Below w.heap.size w _) hb); clear HB; have HO303 := n0_; have HB := n1_; clear n0_ n1_; (try clear hb); (try clear hb2); (try clear hk); (try clear hi); (try clear ho0)) | ((with_reducible refine gate_callee (f := 14) rfl ?_); refine goesL_ (some 20) rfl rfl Tryd.func14 (by kernel_rfl) rfl #[.string a0] rfl (by (try simp only [List.map_toArray, List.map_cons, List.map_nil]); first | done | rfl | (simp only [List.length_drop, List.length_take]; rfl)) ?_; (with_reducible refine (kindlingref07_Scan.calls k a0 t304 t305 t306 _ A7.out).mono ?_); rintro e w14 ⟨v307, rfl, ho0, hb⟩; refine ⟨_, rfl, ?_⟩; have n0_ := Aside0.mk (Kd.R_elder' (by exact Kd.R_up <| HO303.out) (Kd.R_base ho0) hb); have n1_ := Aside0.mk (Kd.R_lower (Kd.R_new' ho0 (Kd.R_lt (by exact Kd.R_up <| HO303.out))) (below_size (by first | exact ai | (with_reducible exact HB.out) : Below w.heap.size w _))); have n2_ := Aside0.mk (below_step (by first | exact ai | (with_reducible exact HB.out) : Below w.heap.size w _) hb); clear HO303; clear HB; have HO303 := n0_; have HO308 := n1_; have HB := n2_; clear n0_ n1_ n2_; (try clear hb); (try clear hb2); (try clear hk); (try clear hi); (try clear ho0); obtain ⟨Ao15, co15, eo15⟩ := Kd.R_slice HO303.out; subst eo15; obtain ⟨Ao16, co16, eo16⟩ := Kd.R_slice HO308.out; subst eo16) | ((with_reducible refine gate_callee (f := 15) rfl ?_); refine goesL_ (some 26) rfl rfl Tryd.func15 (by kernel_rfl) rfl #[.slice Ao15 t299.length co15, .slice Ao16 t304.length co16, .bool true] rfl (by (try simp only [List.map_toArray, List.map_cons, List.map_nil]); first | done | rfl | (simp only [List.length_drop, List.length_take]; rfl)) ?_; (with_reducible refine (kindlingref07_Same.calls k _ _ t299 _ _ t304 true true _ ?side1 ?side2 ?side3 ?side4 A8.out).mono ?_); (case side1 => exact Kd.C_up <| (Kd.R_reads' HO303.out).2.2); (case side2 => exact (Kd.R_reads' HO303.out).2.1); (case side3 => exact Kd.C_up <| (Kd.R_reads' HO308.out).2.2); (case side4 => exact (Kd.R_reads' HO308.out).2.1); rintro e w17 ⟨rfl, hb⟩; refine ⟨_, rfl, ?_⟩; have n0_ := Aside0.mk (Kd.R_below (by exact Kd.R_up <| HO303.out) hb); have n1_ := Aside0.mk (Kd.R_below (by exact Kd.R_up <| HO308.out) hb); have n2_ := Aside0.mk (below_step (by first | exact ai | (with_reducible exact HB.out) : Below w.heap.size w _) hb); clear HO303; clear HO308; clear HB; have HO303 := n0_; have HO308 := n1_; have HB := n2_; clear n0_ n1_ n2_; (try clear hb); (try clear hb2); (try clear hk); (try clear hi)) | (go_at_call 12; (with_reducible refine (kindlinglaw07_known.calls k  t310 _ ?side1 ?side2 A12.out).mono ?_); (case side1 => exact Kd.C_up <| (Kd.C_below HRG0.out HB.out)); (case side2 => exact Kd.C_up <| (Kd.C_below HRG1.out HB.out)); rintro e w18 ⟨rfl, hb⟩; have n0_ := Aside0.mk (Kd.R_below (by exact Kd.R_up <| HO303.out) hb); have n1_ := Aside0.mk (Kd.R_below (by exact Kd.R_up <| HO308.out) hb); have n2_ := Aside0.mk (below_step (by first | exact ai | (with_reducible exact HB.out) : Below w.heap.size w _) hb); clear HO303; clear HO308; clear HB; have HO303 := n0_; have HO308 := n1_; have HB := n2_; clear n0_ n1_ n2_; (try clear hb); (try clear hb2); (try clear hk); (try clear hi)))
     go_ret
     exact ⟨by first | rfl | (simp [errW_none, errW_some] <;> rfl) | (simp [*, errW_none, errW_some] <;> rfl), by first | exact ai | (with_reducible exact HB.out)⟩
    ·rw [if_neg c11] at H
     exact absurd (H.trans (congrArg some hr)) (by simp)
   ·rw [if_neg c10] at H
    exact absurd (H.trans (congrArg some hr)) (by simp)
  ·replace c9 := Bool.eq_false_iff.mpr c9
   subst c9
   have H1 : (some false) = some r := by rw [if_neg (show ¬ (false = true) by decide)] at H; exact H
   exact absurd (H1.trans (congrArg some hr)) (by simp)

end Go.Proofs.YtnihjlnnllngeaaDoor.PL
