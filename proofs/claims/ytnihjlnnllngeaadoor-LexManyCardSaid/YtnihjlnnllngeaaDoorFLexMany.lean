-- Printed by kprint.py, lay.py, programs of this claim's author over the kit's printer.
import Derived.Test.YtnihjlnnllngeaaDoorF0
import Derived.Test.YtnihjlnnllngeaaDoorFScan
import Derived.Test.YtnihjlnnllngeaaDoorFKnown
import Derived.Test.YtnihjlnnllngeaaDoorFRWord
import Derived.Test.YtnihjlnnllngeaaDoorFRAmong
namespace Go.Proofs.YtnihjlnnllngeaaDoor.PL
open Go.RowKit Go.Proofs.YtnihjlnnllngeaaDoorW.PrintWords Go.Proofs.YtnihjlnnllngeaaDoorW.PrintLast Go.Proofs.YtnihjlnnllngeaaDoorW.PrintMore
attribute [local go_sem] max2_int min2_int max_two min_two max_three min_three max_four min_four   -- for this text's walks alone
set_option linter.unusedVariables false
set_option linter.unusedSimpArgs false

/-! ### kindlinglaw07_LexMany: function 4 -/
mutual
def kindlinglaw07_LexMany.j0 : Nat → Int → ByteArray → Bool → Option (Bool)
 | 0, _, _, _ => none
 | k + 1, x0, x1, x22 => if x22 = true then (kindlinglaw07_LexMany.j1 k x0 (⟨#[97]⟩ : ByteArray)) else (kindlinglaw07_LexMany.j1 k x0 x1)
def kindlinglaw07_LexMany.j1 : Nat → Int → ByteArray → Option (Bool)
 | 0, _, _ => none
 | k + 1, x0, x1 => kindlinglaw07_LexMany.l0 k x0 x1 ([] : List Int) 0
def kindlinglaw07_LexMany.l0 : Nat → Int → ByteArray → List Int → Int → Option (Bool)
 | 0, _, _, _, _ => none
 | k + 1, x0, x1, x5, x6 => if x6 < x0 then (if x5.length + x1.size < 140737488355328 then ((some (x5 ++ bytesOf x1 : List Int)).bind fun y313 => (if y313.length < 140737488355328 then (kindlinglaw07_LexMany.l0 k x0 x1 (y313 ++ [32]) (wrap64 (x6 + 1))) else (none))) else (none)) else (if (x5.length : Int) > 4096 then ((lex_Scan.f k (strOfNums x5)).bind fun bt319 => (if bt319.2.1 = 0 then (if bt319.2.2 = 3 then ((kindlinglaw07_known.f k).bind fun t324 => (some t324)) else (some false)) else (some false))) else ((lex_Scan.f k (strOfNums x5)).bind fun bt325 => (if x0 > 1000 then (if (bt325.1.length : Int) = 0 then (if bt325.2.2 = 3 then (if bt325.2.1 = (wrap64 (1000 * (wrap64 ((x1.size : Int) + 1)))) then ((kindlinglaw07_known.f k).bind fun t330 => (some t330)) else (some false)) else (some false)) else (some false)) else (if bt325.2.2 = 0 then (if bt325.2.1 = 0 then (if (bt325.1.length : Int) = (wrap64 (x0 + 1)) then (if 0 ≤ x0 then (if x0 < (bt325.1.length : Int) then (if ((rd_T32 bt325.1 x0).f3) = (x5.length : Int) then ((kindlinglaw07_known.f k).bind fun t332 => (some t332)) else (some false)) else (none)) else (none)) else (some false)) else (some false)) else (some false)))))
end
def kindlinglaw07_LexMany.f (k : Nat) (a0 : Int) (a1 : ByteArray) : Option (Bool) := (kindlingref01_Among.f a0 1100).bind fun t311 => (if (a1.size : Int) > 3 then (kindlinglaw07_LexMany.j0 k t311 a1 true) else ((kindlingref07_Word.f k a1).bind fun t312 => (kindlinglaw07_LexMany.j0 k t311 a1 (!t312))))
theorem kindlinglaw07_LexMany.mono_l : ∀ k, (∀ y0 y1 y2, LeO (kindlinglaw07_LexMany.j0 k y0 y1 y2) (kindlinglaw07_LexMany.j0 (k + 1) y0 y1 y2)) ∧ (∀ y0 y1, LeO (kindlinglaw07_LexMany.j1 k y0 y1) (kindlinglaw07_LexMany.j1 (k + 1) y0 y1)) ∧ (∀ y0 y1 y2 y3, LeO (kindlinglaw07_LexMany.l0 k y0 y1 y2 y3) (kindlinglaw07_LexMany.l0 (k + 1) y0 y1 y2 y3))
 | 0 => ⟨fun _ _ _ r h => by simp [kindlinglaw07_LexMany.j0] at h, fun _ _ r h => by simp [kindlinglaw07_LexMany.j1] at h, fun _ _ _ _ r h => by simp [kindlinglaw07_LexMany.l0] at h⟩
 | k + 1 => by
  obtain ⟨ih0, ih1, ih2⟩ := kindlinglaw07_LexMany.mono_l k
  refine ⟨?_, ?_, ?_⟩
  ·intro y0 y1 y2
   unfold kindlinglaw07_LexMany.j0
   repeat' first
   | (with_reducible exact ih0 _ _ _)
   | (with_reducible exact ih1 _ _)
   | (with_reducible exact ih2 _ _ _ _)
   | (with_reducible exact kindlinglaw07_known.mono _)
   | (with_reducible exact kindlingref07_Word.mono _ _)
   | (with_reducible exact lex_Scan.mono _ _)
   | (with_reducible exact LeO.refl _)
   | (with_reducible exact LeO.none _)
   | (with_reducible refine LeO.ite ?_ ?_)
   | (with_reducible refine LeO.bind ?_ (fun _ => ?_))
   | exact ih0 _ _ _
   | exact ih1 _ _
   | exact ih2 _ _ _ _
   | exact kindlinglaw07_known.mono _
   | exact kindlingref07_Word.mono _ _
   | exact lex_Scan.mono _ _
   | exact LeO.none _
   | refine LeO.ite ?_ ?_
   | refine LeO.bind ?_ (fun _ => ?_)
  ·intro y0 y1
   unfold kindlinglaw07_LexMany.j1
   repeat' first
   | (with_reducible exact ih0 _ _ _)
   | (with_reducible exact ih1 _ _)
   | (with_reducible exact ih2 _ _ _ _)
   | (with_reducible exact kindlinglaw07_known.mono _)
   | (with_reducible exact kindlingref07_Word.mono _ _)
   | (with_reducible exact lex_Scan.mono _ _)
   | (with_reducible exact LeO.refl _)
   | (with_reducible exact LeO.none _)
   | (with_reducible refine LeO.ite ?_ ?_)
   | (with_reducible refine LeO.bind ?_ (fun _ => ?_))
   | exact ih0 _ _ _
   | exact ih1 _ _
   | exact ih2 _ _ _ _
   | exact kindlinglaw07_known.mono _
   | exact kindlingref07_Word.mono _ _
   | exact lex_Scan.mono _ _
   | exact LeO.none _
   | refine LeO.ite ?_ ?_
   | refine LeO.bind ?_ (fun _ => ?_)
  ·intro y0 y1 y2 y3
   unfold kindlinglaw07_LexMany.l0
   repeat' first
   | (with_reducible exact ih0 _ _ _)
   | (with_reducible exact ih1 _ _)
   | (with_reducible exact ih2 _ _ _ _)
   | (with_reducible exact kindlinglaw07_known.mono _)
   | (with_reducible exact kindlingref07_Word.mono _ _)
   | (with_reducible exact lex_Scan.mono _ _)
   | (with_reducible exact LeO.refl _)
   | (with_reducible exact LeO.none _)
   | (with_reducible refine LeO.ite ?_ ?_)
   | (with_reducible refine LeO.bind ?_ (fun _ => ?_))
   | exact ih0 _ _ _
   | exact ih1 _ _
   | exact ih2 _ _ _ _
   | exact kindlinglaw07_known.mono _
   | exact kindlingref07_Word.mono _ _
   | exact lex_Scan.mono _ _
   | exact LeO.none _
   | refine LeO.ite ?_ ?_
   | refine LeO.bind ?_ (fun _ => ?_)
theorem kindlinglaw07_LexMany.mono : ∀ a0 a1 k, LeO (kindlinglaw07_LexMany.f k a0 a1) (kindlinglaw07_LexMany.f (k + 1) a0 a1) := by
 intro a0 a1 k
 obtain ⟨ih0, ih1, ih2⟩ := kindlinglaw07_LexMany.mono_l k
 unfold kindlinglaw07_LexMany.f
 repeat' first
   | (with_reducible exact ih0 _ _ _)
   | (with_reducible exact ih1 _ _)
   | (with_reducible exact ih2 _ _ _ _)
   | (with_reducible exact kindlinglaw07_known.mono _)
   | (with_reducible exact kindlingref07_Word.mono _ _)
   | (with_reducible exact lex_Scan.mono _ _)
   | (with_reducible exact LeO.refl _)
   | (with_reducible exact LeO.none _)
   | (with_reducible refine LeO.ite ?_ ?_)
   | (with_reducible refine LeO.bind ?_ (fun _ => ?_))
   | exact ih0 _ _ _
   | exact ih1 _ _
   | exact ih2 _ _ _ _
   | exact kindlinglaw07_known.mono _
   | exact kindlingref07_Word.mono _ _
   | exact lex_Scan.mono _ _
   | exact LeO.none _
   | refine LeO.ite ?_ ?_
   | refine LeO.bind ?_ (fun _ => ?_)
set_option maxHeartbeats 8000000 in
set_option maxRecDepth 100000 in
theorem kindlinglaw07_LexMany.calls (k : Nat) (a0 : Int) (a1 : ByteArray) (r : Bool) (w : World) (hrG0 : Kd.C Kd.string w AG0 lG0.length lG0) (hrG1 : Kd.C Kd.string w AG1 lG1.length lG1) (hr : r = true) (h : kindlinglaw07_LexMany.f k a0 a1 = some r) :
  Calls Tryd.prog 4 #[.int .i64 a0, .string a1] w fun e w' => e = .returned (.bool r) ∧ Below w.heap.size w w' := by
 have HRG0 := Aside0.mk hrG0
 have HCG0 := Aside0.mk (show lG0.length ≤ cG0 by decide)
 clear hrG0
 have HRG1 := Aside0.mk hrG1
 have HCG1 := Aside0.mk (show lG1.length ≤ cG1 by decide)
 clear hrG1
 have HB := Aside0.mk (Below.refl w.heap.size w)
 have H : ((kindlingref01_Among.f a0 1100).bind fun t311 => (if (a1.size : Int) > 3 then (kindlinglaw07_LexMany.j0 k t311 a1 true) else ((kindlingref07_Word.f k a1).bind fun t312 => (kindlinglaw07_LexMany.j0 k t311 a1 (!t312))))) = some r := h
 clear h
 replace H := Option.bind_eq_some_iff.mp H
 obtain ⟨t311, A30, H⟩ := H
 replace H : (if (a1.size : Int) > 3 then (kindlinglaw07_LexMany.j0 k t311 a1 true) else ((kindlingref07_Word.f k a1).bind fun t312 => (kindlinglaw07_LexMany.j0 k t311 a1 (!t312)))) = some r := H
 have A3 := Aside0.mk A30
 clear A30
 have HC4 := Aside0.mk H
 clear H
 go_enter Tryd.func4, Tryd.ntmps4
 go_upto_region 2 with (first | ((with_reducible refine gate_callee (f := 16) rfl ?_); refine goesL_ (some 14) rfl rfl Tryd.func16 (by kernel_rfl) rfl #[.int .i64 a0, .int .i64 1100] rfl (by (try simp only [List.map_toArray, List.map_cons, List.map_nil]); first | done | rfl | (simp only [List.length_drop, List.length_take]; rfl)) ?_; (with_reducible refine (kindlingref01_Among.calls a0 1100 t311 _ A3.out).mono ?_); rintro e w' ⟨rfl, ⟨nd, rfl⟩⟩; refine ⟨_, rfl, ?_⟩))
 (try simp only [Act.put, List.setIfInBounds_toArray, List.set_cons_zero, List.set_cons_succ])
 go_cut [22] (fun v22 wc => ∃ (kq : Nat) (x22_3 : Bool), v22 = .bool x22_3 ∧ Aside0 (kindlinglaw07_LexMany.j0 kq t311 a1 x22_3 = some r) ∧ Aside0 (kq ≤ k) ∧ Aside0 (Below w.heap.size w wc))
 case first =>
  have H := HC4.out
  clear HC4
  by_cases c5 : (a1.size : Int) > 3
  ·rw [if_pos c5] at H
   have c5b0 : decide (3 < (a1.size : Int)) = true := decide_eq_true c5
   have c5b1 : decide (3 < a1.size) = true := decide_eq_true (by omega)
   clear c5
   (first | rw [c5b0] | rw [c5b1] | (simp only [i64_w, i32_w]; rw [c5b0]) | skip)
   have H' := Aside0.mk H
   clear H
   go_wp2
   go_meet
   case rel => exact ⟨_, (true), (by first | rfl | (simp; done) | (simp [*]; done) | (simp [i64_w, u8_w]; done) | (simp; simp only [isEmpty_bne]; done)), H', ⟨by first | omega | exact Nat.le_refl _⟩, ⟨by first | exact ai | (with_reducible exact HB.out)⟩⟩
  ·rw [if_neg c5] at H
   have c5b0 : decide (3 < (a1.size : Int)) = false := decide_eq_false c5
   have c5b1 : decide (3 < a1.size) = false := decide_eq_false (by omega)
   clear c5
   (first | rw [c5b0] | rw [c5b1] | (simp only [i64_w, i32_w]; rw [c5b0]) | skip)
   replace H := Option.bind_eq_some_iff.mp H
   obtain ⟨t312, A60, H⟩ := H
   replace H : (kindlinglaw07_LexMany.j0 k t311 a1 (!t312)) = some r := H
   have A6 := Aside0.mk A60
   clear A60
   have H' := Aside0.mk H
   clear H
   go_wp2_with (first | (go_at_call 17; (with_reducible refine (kindlingref07_Word.calls k a1 t312 _ A6.out).mono ?_); rintro e w' ⟨rfl, ⟨nd, rfl⟩⟩))
   go_meet
   case rel => exact ⟨_, (!t312), (by first | rfl | (simp; done) | (simp [*]; done) | (simp [i64_w, u8_w]; done) | (simp; simp only [isEmpty_bne]; done)), H', ⟨by first | omega | exact Nat.le_refl _⟩, ⟨by first | exact ai | (with_reducible exact HB.out)⟩⟩
 case rest =>
  clear HC4
  try clear c1
  try clear p2
  try clear c4
  try clear c5
  try clear c5b0
  try clear c5b1
  obtain ⟨kq, x22_3, rfl, HA, HJ3, HB⟩ := hcut
  cases kq with
  | zero => exact absurd HA.out (by simp [kindlinglaw07_LexMany.j0])
  | succ kj3 =>
   have H := HA.out
   clear HA
   simp only [kindlinglaw07_LexMany.j0] at H
   have HC7 := Aside0.mk H
   clear H
   go_upto_if 22 with (fail)
   go_cut [1] (fun v1 wc => ∃ (kq : Nat) (x1_6 : ByteArray), v1 = .string x1_6 ∧ Aside0 (kindlinglaw07_LexMany.j1 kq t311 x1_6 = some r) ∧ Aside0 (kq ≤ kj3) ∧ Aside0 (Below w.heap.size w wc))
   case first =>
    have H := HC7.out
    clear HC7
    by_cases c8 : x22_3 = true
    ·subst c8
     have H1 : (kindlinglaw07_LexMany.j1 kj3 t311 (⟨#[97]⟩ : ByteArray)) = some r := by rw [if_pos rfl] at H; exact H
     clear H
     have H := H1
     clear H1
     have H' := Aside0.mk H
     clear H
     go_wp2
     go_meet
     case rel => exact ⟨_, ((⟨#[97]⟩ : ByteArray)), (by first | rfl | (simp; done) | (simp [*]; done) | (simp [i64_w, u8_w]; done) | (simp; simp only [isEmpty_bne]; done)), H', ⟨by have := HJ3.out; first | omega | exact Nat.le_refl _⟩, ⟨by first | exact ai | (with_reducible exact HB.out)⟩⟩
    ·replace c8 := Bool.eq_false_iff.mpr c8
     subst c8
     have H1 : (kindlinglaw07_LexMany.j1 kj3 t311 a1) = some r := by rw [if_neg (show ¬ (false = true) by decide)] at H; exact H
     clear H
     have H := H1
     clear H1
     have H' := Aside0.mk H
     clear H
     go_wp2
     go_meet
     case rel => exact ⟨_, (a1), (by first | rfl | (simp; done) | (simp [*]; done) | (simp [i64_w, u8_w]; done) | (simp; simp only [isEmpty_bne]; done)), H', ⟨by have := HJ3.out; first | omega | exact Nat.le_refl _⟩, ⟨by first | exact ai | (with_reducible exact HB.out)⟩⟩
   case rest =>
    clear HC7
    try clear c1
    try clear p2
    try clear c4
    try clear c5
    try clear c5b0
    try clear c5b1
    try clear c8
    try clear p2
    obtain ⟨kq, x1_6, rfl, HA, HJ6, HB⟩ := hcut
    cases kq with
    | zero => exact absurd HA.out (by simp [kindlinglaw07_LexMany.j1])
    | succ kj6 =>
     have H := HA.out
     clear HA
     simp only [kindlinglaw07_LexMany.j1] at H
     have H' := Aside0.mk H
     clear H
     go_wp2
     go_loopg [5, 6] kj6 (fun kq v5 v6 w' => ∃ (x5_3 : List Int) (x6_3 : Int), v6 = .int .i64 x6_3 ∧ Aside0 (kindlinglaw07_LexMany.l0 kq t311 x1_6 x5_3 x6_3 = some r) ∧ Aside0 (kq ≤ kj6) ∧ Aside0 (Kd.R (Kd.int .u8) 5 w' w.heap.size (fun _ => True) v5 x5_3) ∧ Aside0 (Below w.heap.size w w'))
     case atStart => exact ⟨(([] : List Int)), (0), (by first | rfl | (simp; done) | (simp [*]; done) | (simp [i64_w, u8_w]; done) | (simp; simp only [isEmpty_bne]; done)), H', ⟨Nat.le_refl _⟩, ⟨by first | exact Kd.R_nil _ _ _ _ _ | exact Kd.N_nil _ _ _ _ _ | exact Kd.V_nil _ _ _ _ _ | exact Kd.Q_nil _ _ _ _ _ | exact Kd.S_nil _ _ _ _ _⟩, ⟨by first | exact ai | (with_reducible exact HB.out)⟩⟩
     case round =>
      clear H'
      try clear c1
      try clear p2
      try clear c4
      try clear c5
      try clear c5b0
      try clear c5b1
      try clear c8
      try clear p2
      obtain ⟨x5_3, x6_3, rfl, HA, HK3, HO_5, HB⟩ := hrel
      cases gk with
      | zero => exact absurd HA.out (by simp [kindlinglaw07_LexMany.l0])
      | succ k3 =>
       have H := HA.out
       clear HA
       simp only [kindlinglaw07_LexMany.l0] at H
       by_cases c9 : x6_3 < t311
       ·rw [if_pos c9] at H
        have c9b0 : decide (x6_3 < t311) = true := decide_eq_true c9
        clear c9
        by_cases c10 : x5_3.length + x1_6.size < 140737488355328
        ·rw [if_pos c10] at H
         have LMc10 := Aside0.mk c10
         clear c10
         obtain ⟨y313, hy313⟩ : ∃ y_ : List Int, y_ = (x5_3 ++ bytesOf x1_6) := ⟨_, rfl⟩
         replace H : (if y313.length < 140737488355328 then (kindlinglaw07_LexMany.l0 k3 t311 x1_6 (y313 ++ [32]) (wrap64 (x6_3 + 1))) else (none)) = some r := by first | (rw [hy313]; with_reducible exact H) | (have H2_ := (Option.bind_some _ _).symm.trans H; rw [hy313]; with_reducible exact H2_) | (have H2_ := (Option.bind_some _ _).symm.trans H; with_reducible exact H2_) | with_reducible exact H | (rw [hy313]; exact H) | exact H
         have Ny313 := Aside0.mk hy313
         clear hy313
         by_cases c11 : y313.length < 140737488355328
         ·rw [if_pos c11] at H
          have LMc11 := Aside0.mk c11
          clear c11
          obtain ⟨y316, hy316⟩ : ∃ y_ : List Int, y_ = (y313 ++ [32]) := ⟨_, rfl⟩
          replace H : (kindlinglaw07_LexMany.l0 k3 t311 x1_6 y316 (wrap64 (x6_3 + 1))) = some r := by first | (rw [hy316]; with_reducible exact H) | (have H2_ := (Option.bind_some _ _).symm.trans H; rw [hy316]; with_reducible exact H2_) | (have H2_ := (Option.bind_some _ _).symm.trans H; with_reducible exact H2_) | with_reducible exact H | (rw [hy316]; exact H) | exact H
          have Ny316 := Aside0.mk hy316
          clear hy316
          have H' := Aside0.mk H
          clear H
          go_wp2_with (first | (at_builtin; refine print_append_str (w0 := w) w.heap.size rfl (.tmp 28) _ 30 9 5 rfl Tryd.underlying30 Tryd.underlying9 info5 u5 x5_3 x1_6 rfl rfl ?aO ?aB ?aS ?aL ?_; (case aB => exact (by first | exact ai | (with_reducible exact HB.out))); (case aO => exact (Kd.own_of_R (by exact Kd.R_up <| HO_5.out))); (case aS => exact (below_size (by first | exact ai | (with_reducible exact HB.out) : Below w.heap.size w _))); (case aL => have := LMc10.out; omega); intro v314 w12 ho0 hb hg; have ho := Kd.R_of_own (h1 := fun _ => rfl) (ok := fun _ => True) ho0 (fun _ _ => trivial); clear ho0; have hat := True.intro; rw [← Ny313.out] at ho; change Kd.R (Kd.int .u8) 5 w12 w.heap.size (fun _ => True) v314 y313 at ho; have n0_ := Aside0.mk (hb); have n1_ := Aside0.mk (ho); clear HB; clear HO_5; have HB := n0_; have HO315 := n1_; clear n0_ n1_; clear ho hb hg hat) | ((with_reducible refine gate_builtin (b := .append) (xs := #[.tmp 30, .tmp 31]) rfl ?_); (try (refine gate_guard (by rfl) ?_; dsimp only)); at_builtin; refine Kd.R_append (Kd.int .u8) (w0 := w) w.heap.size rfl (.tmp 30) (.tmp 31) 30 5 (.int .u8 0) 1 rfl Tryd.underlying30 info5 rfl (by decide) (by omega) v314 y313 32 [.int .u8 32] (fun _ => True) (fun _ => False) rfl rfl ?aP (fun _ hk => hk.elim) ?aF ?aO ?aB ?aS ?aL ?_; (case aP => exact rfl); (case aB => exact (by first | exact ai | (with_reducible exact HB.out))); (case aF => exact (fun _ _ => trivial)); (case aO => exact (by exact Kd.R_up <| HO315.out)); (case aS => exact (below_size (by first | exact ai | (with_reducible exact HB.out) : Below w.heap.size w _))); (case aL => have := LMc11.out; omega); intro v317 w13 ho hb hg hat; rw [← Ny316.out] at ho; have n0_ := Aside0.mk (hb); have n1_ := Aside0.mk (ho); clear HB; clear HO315; have HB := n0_; have HO318 := n1_; clear n0_ n1_; clear ho hb hg hat))
          go_roundg k3
          case measure => have := HJ3.out; have := HJ6.out; have := HK3.out; omega
          case rel => exact ⟨(y316), (wrap64 (x6_3 + 1)), (by first | rfl | (simp; done) | (simp [*]; done) | (simp [i64_w, u8_w]; done) | (simp; simp only [isEmpty_bne]; done)), H', ⟨by have := HJ3.out; have := HJ6.out; have := HK3.out; omega⟩, ⟨by exact Kd.R_up <| HO318.out⟩, ⟨by first | exact ai | (with_reducible exact HB.out)⟩⟩
         ·rw [if_neg c11] at H
          exact absurd H (by simp)
        ·rw [if_neg c10] at H
         exact absurd H (by simp)
       ·rw [if_neg c9] at H
        have c9b0 : decide (x6_3 < t311) = false := decide_eq_false c9
        clear c9
        by_cases c14 : (x5_3.length : Int) > 4096
        ·rw [if_pos c14] at H
         have c14b0 : decide (4096 < (x5_3.length : Int)) = true := decide_eq_true c14
         have c14b1 : decide (4096 < x5_3.length) = true := decide_eq_true (by omega)
         clear c14
         replace H := Option.bind_eq_some_iff.mp H
         obtain ⟨⟨t319, t320, t321⟩, A150, H⟩ := H
         replace H : (if t320 = 0 then (if t321 = 3 then ((kindlinglaw07_known.f k3).bind fun t324 => (some t324)) else (some false)) else (some false)) = some r := H
         have A15 := Aside0.mk A150
         clear A150
         by_cases c16 : t320 = 0
         ·rw [if_pos c16] at H
          have c16b0 : (t320 == 0) = true := beq_iff_eq.mpr c16
          have c16b1 : (t320 != 0) = false := bne_eq_false_iff_eq.mpr c16
          clear c16
          by_cases c17 : t321 = 3
          ·rw [if_pos c17] at H
           have c17b0 : (t321 == 3) = true := beq_iff_eq.mpr c17
           have c17b1 : (t321 != 3) = false := bne_eq_false_iff_eq.mpr c17
           clear c17
           replace H := Option.bind_eq_some_iff.mp H
           obtain ⟨t324, A180, H⟩ := H
           replace H : (some t324) = some r := H
           have A18 := Aside0.mk A180
           clear A180
           obtain rfl := Option.some.inj H
           obtain ⟨Ao19, co19, eo19⟩ := Kd.R_slice HO_5.out
           subst eo19
           have hcv20 := own_string (P := Tryd.prog) Tryd.underlying30 Tryd.underlying5 Tryd.underlying9 (Kd.own_of_R HO_5.out)
           go_wp2_with (first | ((with_reducible refine gate_callee (f := 13) rfl ?_); refine goesL_ (some 39) rfl rfl Tryd.func13 (by kernel_rfl) rfl #[.string (strOfNums x5_3)] rfl (by (try simp only [List.map_toArray, List.map_cons, List.map_nil]); first | done | rfl | (simp only [List.length_drop, List.length_take]; rfl)) ?_; (with_reducible refine (lex_Scan.calls k3 (strOfNums x5_3) t319 t320 t321 _ ?side1 ?side2 A15.out).mono ?_); (case side1 => exact Kd.C_up <| (Kd.C_below HRG0.out HB.out)); (case side2 => exact Kd.C_up <| (Kd.C_below HRG1.out HB.out)); rintro e w21 ⟨v322, rfl, ho0, hb⟩; refine ⟨_, rfl, ?_⟩; have n0_ := Aside0.mk (Kd.R_below (by exact Kd.R_up <| HO_5.out) hb); have n1_ := Aside0.mk (Kd.R_lower ho0 (below_size (by first | exact ai | (with_reducible exact HB.out) : Below w.heap.size w _))); have n2_ := Aside0.mk (below_step (by first | exact ai | (with_reducible exact HB.out) : Below w.heap.size w _) hb); clear HO_5; clear HB; have HO_5 := n0_; have HO323 := n1_; have HB := n2_; clear n0_ n1_ n2_; (try clear hb); (try clear hb2); (try clear hk); (try clear hi); (try clear ho0)) | (go_at_call 12; (with_reducible refine (kindlinglaw07_known.calls k3  t324 _ ?side1 ?side2 A18.out).mono ?_); (case side1 => exact Kd.C_up <| (Kd.C_below HRG0.out HB.out)); (case side2 => exact Kd.C_up <| (Kd.C_below HRG1.out HB.out)); rintro e w22 ⟨rfl, hb⟩; have n0_ := Aside0.mk (Kd.R_below (by exact Kd.R_up <| HO_5.out) hb); have n1_ := Aside0.mk (Kd.R_below (by exact Kd.R_up <| HO323.out) hb); have n2_ := Aside0.mk (below_step (by first | exact ai | (with_reducible exact HB.out) : Below w.heap.size w _) hb); clear HO_5; clear HO323; clear HB; have HO_5 := n0_; have HO323 := n1_; have HB := n2_; clear n0_ n1_ n2_; (try clear hb); (try clear hb2); (try clear hk); (try clear hi)))
           go_ret
           exact ⟨by first | rfl | (simp [errW_none, errW_some] <;> rfl) | (simp [*, errW_none, errW_some] <;> rfl), by first | exact ai | (with_reducible exact HB.out)⟩
          ·rw [if_neg c17] at H
           exact absurd (H.trans (congrArg some hr)) (by simp)
         ·rw [if_neg c16] at H
          exact absurd (H.trans (congrArg some hr)) (by simp)
        ·rw [if_neg c14] at H
         have c14b0 : decide (4096 < (x5_3.length : Int)) = false := decide_eq_false c14
         have c14b1 : decide (4096 < x5_3.length) = false := decide_eq_false (by omega)
         clear c14
         replace H := Option.bind_eq_some_iff.mp H
         obtain ⟨⟨t325, t326, t327⟩, A290, H⟩ := H
         replace H : (if t311 > 1000 then (if (t325.length : Int) = 0 then (if t327 = 3 then (if t326 = (wrap64 (1000 * (wrap64 ((x1_6.size : Int) + 1)))) then ((kindlinglaw07_known.f k3).bind fun t330 => (some t330)) else (some false)) else (some false)) else (some false)) else (if t327 = 0 then (if t326 = 0 then (if (t325.length : Int) = (wrap64 (t311 + 1)) then (if 0 ≤ t311 then (if t311 < (t325.length : Int) then (if ((rd_T32 t325 t311).f3) = (x5_3.length : Int) then ((kindlinglaw07_known.f k3).bind fun t332 => (some t332)) else (some false)) else (none)) else (none)) else (some false)) else (some false)) else (some false))) = some r := H
         have A29 := Aside0.mk A290
         clear A290
         by_cases c30 : t311 > 1000
         ·rw [if_pos c30] at H
          have c30b0 : decide (1000 < t311) = true := decide_eq_true c30
          clear c30
          by_cases c31 : (t325.length : Int) = 0
          ·rw [if_pos c31] at H
           have c31b0 : ((t325.length : Int) == 0) = true := beq_iff_eq.mpr c31
           have c31b1 : ((t325.length : Int) != 0) = false := bne_eq_false_iff_eq.mpr c31
           clear c31
           by_cases c32 : t327 = 3
           ·rw [if_pos c32] at H
            have c32b0 : (t327 == 3) = true := beq_iff_eq.mpr c32
            have c32b1 : (t327 != 3) = false := bne_eq_false_iff_eq.mpr c32
            clear c32
            by_cases c33 : t326 = (wrap64 (1000 * (wrap64 ((x1_6.size : Int) + 1))))
            ·rw [if_pos c33] at H
             have c33b0 : (t326 == (wrap64 (1000 * (wrap64 ((x1_6.size : Int) + 1))))) = true := beq_iff_eq.mpr c33
             have c33b1 : (t326 != (wrap64 (1000 * (wrap64 ((x1_6.size : Int) + 1))))) = false := bne_eq_false_iff_eq.mpr c33
             clear c33
             replace H := Option.bind_eq_some_iff.mp H
             obtain ⟨t330, A340, H⟩ := H
             replace H : (some t330) = some r := H
             have A34 := Aside0.mk A340
             clear A340
             obtain rfl := Option.some.inj H
             obtain ⟨Ao35, co35, eo35⟩ := Kd.R_slice HO_5.out
             subst eo35
             have hcv36 := own_string (P := Tryd.prog) Tryd.underlying30 Tryd.underlying5 Tryd.underlying9 (Kd.own_of_R HO_5.out)
             go_wp2_with (first | ((with_reducible refine gate_callee (f := 13) rfl ?_); refine goesL_ (some 55) rfl rfl Tryd.func13 (by kernel_rfl) rfl #[.string (strOfNums x5_3)] rfl (by (try simp only [List.map_toArray, List.map_cons, List.map_nil]); first | done | rfl | (simp only [List.length_drop, List.length_take]; rfl)) ?_; (with_reducible refine (lex_Scan.calls k3 (strOfNums x5_3) t325 t326 t327 _ ?side1 ?side2 A29.out).mono ?_); (case side1 => exact Kd.C_up <| (Kd.C_below HRG0.out HB.out)); (case side2 => exact Kd.C_up <| (Kd.C_below HRG1.out HB.out)); rintro e w37 ⟨v328, rfl, ho0, hb⟩; refine ⟨_, rfl, ?_⟩; have n0_ := Aside0.mk (Kd.R_below (by exact Kd.R_up <| HO_5.out) hb); have n1_ := Aside0.mk (Kd.R_lower ho0 (below_size (by first | exact ai | (with_reducible exact HB.out) : Below w.heap.size w _))); have n2_ := Aside0.mk (below_step (by first | exact ai | (with_reducible exact HB.out) : Below w.heap.size w _) hb); clear HO_5; clear HB; have HO_5 := n0_; have HO329 := n1_; have HB := n2_; clear n0_ n1_ n2_; (try clear hb); (try clear hb2); (try clear hk); (try clear hi); (try clear ho0); obtain ⟨Ao38, co38, eo38⟩ := Kd.R_slice HO329.out; subst eo38) | (go_at_call 12; (with_reducible refine (kindlinglaw07_known.calls k3  t330 _ ?side1 ?side2 A34.out).mono ?_); (case side1 => exact Kd.C_up <| (Kd.C_below HRG0.out HB.out)); (case side2 => exact Kd.C_up <| (Kd.C_below HRG1.out HB.out)); rintro e w39 ⟨rfl, hb⟩; have n0_ := Aside0.mk (Kd.R_below (by exact Kd.R_up <| HO_5.out) hb); have n1_ := Aside0.mk (Kd.R_below (by exact Kd.R_up <| HO329.out) hb); have n2_ := Aside0.mk (below_step (by first | exact ai | (with_reducible exact HB.out) : Below w.heap.size w _) hb); clear HO_5; clear HO329; clear HB; have HO_5 := n0_; have HO329 := n1_; have HB := n2_; clear n0_ n1_ n2_; (try clear hb); (try clear hb2); (try clear hk); (try clear hi)))
             go_ret
             exact ⟨by first | rfl | (simp [errW_none, errW_some] <;> rfl) | (simp [*, errW_none, errW_some] <;> rfl), by first | exact ai | (with_reducible exact HB.out)⟩
            ·rw [if_neg c33] at H
             exact absurd (H.trans (congrArg some hr)) (by simp)
           ·rw [if_neg c32] at H
            exact absurd (H.trans (congrArg some hr)) (by simp)
          ·rw [if_neg c31] at H
           exact absurd (H.trans (congrArg some hr)) (by simp)
         ·rw [if_neg c30] at H
          have c30b0 : decide (1000 < t311) = false := decide_eq_false c30
          clear c30
          by_cases c52 : t327 = 0
          ·rw [if_pos c52] at H
           have c52b0 : (t327 == 0) = true := beq_iff_eq.mpr c52
           have c52b1 : (t327 != 0) = false := bne_eq_false_iff_eq.mpr c52
           clear c52
           by_cases c53 : t326 = 0
           ·rw [if_pos c53] at H
            have c53b0 : (t326 == 0) = true := beq_iff_eq.mpr c53
            have c53b1 : (t326 != 0) = false := bne_eq_false_iff_eq.mpr c53
            clear c53
            by_cases c54 : (t325.length : Int) = (wrap64 (t311 + 1))
            ·rw [if_pos c54] at H
             have c54b0 : ((t325.length : Int) == (wrap64 (t311 + 1))) = true := beq_iff_eq.mpr c54
             have c54b1 : ((t325.length : Int) != (wrap64 (t311 + 1))) = false := bne_eq_false_iff_eq.mpr c54
             clear c54
             by_cases c55 : 0 ≤ t311
             ·rw [if_pos c55] at H
              have c55b0 : decide (0 ≤ t311) = true := decide_eq_true c55
              clear c55
              by_cases c56 : t311 < (t325.length : Int)
              ·rw [if_pos c56] at H
               have c56b0 : decide (t311 < (t325.length : Int)) = true := decide_eq_true c56
               clear c56
               by_cases c57 : ((rd_T32 t325 t311).f3) = (x5_3.length : Int)
               ·rw [if_pos c57] at H
                have c57b0 : (((rd_T32 t325 t311).f3) == (x5_3.length : Int)) = true := beq_iff_eq.mpr c57
                have c57b1 : (((rd_T32 t325 t311).f3) != (x5_3.length : Int)) = false := bne_eq_false_iff_eq.mpr c57
                clear c57
                replace H := Option.bind_eq_some_iff.mp H
                obtain ⟨t332, A580, H⟩ := H
                replace H : (some t332) = some r := H
                have A58 := Aside0.mk A580
                clear A580
                obtain rfl := Option.some.inj H
                obtain ⟨Ao59, co59, eo59⟩ := Kd.R_slice HO_5.out
                subst eo59
                have hcv60 := own_string (P := Tryd.prog) Tryd.underlying30 Tryd.underlying5 Tryd.underlying9 (Kd.own_of_R HO_5.out)
                go_wp2_with (first | ((with_reducible refine gate_callee (f := 13) rfl ?_); refine goesL_ (some 55) rfl rfl Tryd.func13 (by kernel_rfl) rfl #[.string (strOfNums x5_3)] rfl (by (try simp only [List.map_toArray, List.map_cons, List.map_nil]); first | done | rfl | (simp only [List.length_drop, List.length_take]; rfl)) ?_; (with_reducible refine (lex_Scan.calls k3 (strOfNums x5_3) t325 t326 t327 _ ?side1 ?side2 A29.out).mono ?_); (case side1 => exact Kd.C_up <| (Kd.C_below HRG0.out HB.out)); (case side2 => exact Kd.C_up <| (Kd.C_below HRG1.out HB.out)); rintro e w61 ⟨v328, rfl, ho0, hb⟩; refine ⟨_, rfl, ?_⟩; have n0_ := Aside0.mk (Kd.R_below (by exact Kd.R_up <| HO_5.out) hb); have n1_ := Aside0.mk (Kd.R_lower ho0 (below_size (by first | exact ai | (with_reducible exact HB.out) : Below w.heap.size w _))); have n2_ := Aside0.mk (below_step (by first | exact ai | (with_reducible exact HB.out) : Below w.heap.size w _) hb); clear HO_5; clear HB; have HO_5 := n0_; have HO329 := n1_; have HB := n2_; clear n0_ n1_ n2_; (try clear hb); (try clear hb2); (try clear hk); (try clear hi); (try clear ho0); obtain ⟨Ao62, co62, eo62⟩ := Kd.R_slice HO329.out; subst eo62; have p331 : 0 ≤ (t311 : Int) := of_decide_eq_true (by first | (with_reducible assumption) | assumption); have q331 : t311 < (t325.length : Int) := of_decide_eq_true (by first | (with_reducible assumption) | assumption); obtain ⟨ad331, e331, hx331_0, hx331_1, hx331_2, hx331_3⟩ := at_T32 (Kd.R_reads' HO329.out).2.2 t311 p331 q331; cases e331; replace p331 := eq_true p331; replace q331 := eq_true q331) | (go_at_call 12; (with_reducible refine (kindlinglaw07_known.calls k3  t332 _ ?side1 ?side2 A58.out).mono ?_); (case side1 => exact Kd.C_up <| (Kd.C_below HRG0.out HB.out)); (case side2 => exact Kd.C_up <| (Kd.C_below HRG1.out HB.out)); rintro e w63 ⟨rfl, hb⟩; have n0_ := Aside0.mk (Kd.R_below (by exact Kd.R_up <| HO_5.out) hb); have n1_ := Aside0.mk (Kd.R_below (by exact Kd.R_up <| HO329.out) hb); have n2_ := Aside0.mk (below_step (by first | exact ai | (with_reducible exact HB.out) : Below w.heap.size w _) hb); clear HO_5; clear HO329; clear HB; have HO_5 := n0_; have HO329 := n1_; have HB := n2_; clear n0_ n1_ n2_; (try clear hb); (try clear hb2); (try clear hk); (try clear hi)))
                go_ret
                exact ⟨by first | rfl | (simp [errW_none, errW_some] <;> rfl) | (simp [*, errW_none, errW_some] <;> rfl), by first | exact ai | (with_reducible exact HB.out)⟩
               ·rw [if_neg c57] at H
                exact absurd (H.trans (congrArg some hr)) (by simp)
              ·rw [if_neg c56] at H
               exact absurd H (by simp)
             ·rw [if_neg c55] at H
              exact absurd H (by simp)
            ·rw [if_neg c54] at H
             exact absurd (H.trans (congrArg some hr)) (by simp)
           ·rw [if_neg c53] at H
            exact absurd (H.trans (congrArg some hr)) (by simp)
          ·rw [if_neg c52] at H
           exact absurd (H.trans (congrArg some hr)) (by simp)

end Go.Proofs.YtnihjlnnllngeaaDoor.PL
