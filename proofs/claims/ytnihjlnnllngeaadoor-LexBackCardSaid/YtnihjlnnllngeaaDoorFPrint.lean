-- Printed by kprint.py, lay.py, programs of this claim's author over the kit's printer.
import Derived.Test.YtnihjlnnllngeaaDoorF0
import Derived.Test.YtnihjlnnllngeaaDoorFRight
import Derived.Test.YtnihjlnnllngeaaDoorFQuote
namespace Go.Proofs.YtnihjlnnllngeaaDoor.PL
open Go.RowKit Go.Proofs.YtnihjlnnllngeaaDoorW.PrintWords Go.Proofs.YtnihjlnnllngeaaDoorW.PrintLast Go.Proofs.YtnihjlnnllngeaaDoorW.PrintMore
attribute [local go_sem] max2_int min2_int max_two min_two max_three min_three max_four min_four   -- for this text's walks alone
set_option linter.unusedVariables false
set_option linter.unusedSimpArgs false

attribute [local go_sem high] eqA32
/-! ### lex_Print: function 20 -/
mutual
def lex_Print.l0 : Nat → List Int → List (S32) → Int → Int → Option (ByteArray × Int)
 | 0, _, _, _, _ => none
 | k + 1, x4, x7, x8, x9 => if x9 < x8 then (if 0 ≤ x9 then (if x9 < (x7.length : Int) then ((lex_Right.f k ((rd_T32 x7 x9).f0) ((rd_T32 x7 x9).f1) ((rd_T32 x7 x9).f2) ((rd_T32 x7 x9).f3)).bind fun t183 => (if t183 = true then (if ((rd_T32 x7 x9).f0) = 0 then (lex_Print.l0 k x4 x7 x8 (wrap64 (x9 + 1))) else (if (x4.length : Int) > 0 then (if x4.length < 140737488355328 then (lex_Print.j1 k (x4 ++ [32]) x7 x8 x9 ((rd_T32 x7 x9).f0) ((rd_T32 x7 x9).f1) ((rd_T32 x7 x9).f2) ((rd_T32 x7 x9).f3)) else (none)) else (lex_Print.j1 k x4 x7 x8 x9 ((rd_T32 x7 x9).f0) ((rd_T32 x7 x9).f1) ((rd_T32 x7 x9).f2) ((rd_T32 x7 x9).f3)))) else (some ((⟨#[]⟩ : ByteArray), 1)))) else (none)) else (none)) else (some (strOfNums x4, 0))
def lex_Print.j1 : Nat → List Int → List (S32) → Int → Int → Int → ByteArray → Int → Int → Option (ByteArray × Int)
 | 0, _, _, _, _, _, _, _, _ => none
 | k + 1, x4, x7, x8, x9, x183000, x183001, x183002, x183003 => if x183000 = 1 then ((num_Text.f x183002).bind fun t187 => (if x4.length + t187.size < 140737488355328 then (lex_Print.l0 k (x4 ++ bytesOf t187) x7 x8 (wrap64 (x9 + 1))) else (none))) else (if x183000 = 2 then ((lex_quote.f k x183001).bind fun t191 => (if x4.length + t191.length < 140737488355328 then (lex_Print.l0 k (x4 ++ t191) x7 x8 (wrap64 (x9 + 1))) else (none))) else (if x4.length + x183001.size < 140737488355328 then (lex_Print.l0 k (x4 ++ bytesOf x183001) x7 x8 (wrap64 (x9 + 1))) else (none)))
end
def lex_Print.f (k : Nat) (l0 : List (S32)) : Option (ByteArray × Int) := lex_Print.l0 k ([] : List Int) l0 (l0.length : Int) 0
theorem lex_Print.mono_l : ∀ k, (∀ y0 y1 y2 y3, LeO (lex_Print.l0 k y0 y1 y2 y3) (lex_Print.l0 (k + 1) y0 y1 y2 y3)) ∧ (∀ y0 y1 y2 y3 y4 y5 y6 y7, LeO (lex_Print.j1 k y0 y1 y2 y3 y4 y5 y6 y7) (lex_Print.j1 (k + 1) y0 y1 y2 y3 y4 y5 y6 y7))
 | 0 => ⟨fun _ _ _ _ r h => by simp [lex_Print.l0] at h, fun _ _ _ _ _ _ _ _ r h => by simp [lex_Print.j1] at h⟩
 | k + 1 => by
  obtain ⟨ih0, ih1⟩ := lex_Print.mono_l k
  refine ⟨?_, ?_⟩
  ·intro y0 y1 y2 y3
   unfold lex_Print.l0
   repeat' first
   | (with_reducible exact ih0 _ _ _ _)
   | (with_reducible exact ih1 _ _ _ _ _ _ _ _)
   | (with_reducible exact lex_Right.mono _ _ _ _ _)
   | (with_reducible exact lex_quote.mono _ _)
   | (with_reducible exact LeO.refl _)
   | (with_reducible exact LeO.none _)
   | (with_reducible refine LeO.ite ?_ ?_)
   | (with_reducible refine LeO.bind ?_ (fun _ => ?_))
   | exact ih0 _ _ _ _
   | exact ih1 _ _ _ _ _ _ _ _
   | exact lex_Right.mono _ _ _ _ _
   | exact lex_quote.mono _ _
   | exact LeO.none _
   | refine LeO.ite ?_ ?_
   | refine LeO.bind ?_ (fun _ => ?_)
  ·intro y0 y1 y2 y3 y4 y5 y6 y7
   unfold lex_Print.j1
   repeat' first
   | (with_reducible exact ih0 _ _ _ _)
   | (with_reducible exact ih1 _ _ _ _ _ _ _ _)
   | (with_reducible exact lex_Right.mono _ _ _ _ _)
   | (with_reducible exact lex_quote.mono _ _)
   | (with_reducible exact LeO.refl _)
   | (with_reducible exact LeO.none _)
   | (with_reducible refine LeO.ite ?_ ?_)
   | (with_reducible refine LeO.bind ?_ (fun _ => ?_))
   | exact ih0 _ _ _ _
   | exact ih1 _ _ _ _ _ _ _ _
   | exact lex_Right.mono _ _ _ _ _
   | exact lex_quote.mono _ _
   | exact LeO.none _
   | refine LeO.ite ?_ ?_
   | refine LeO.bind ?_ (fun _ => ?_)
theorem lex_Print.mono : ∀ a0 k, LeO (lex_Print.f k a0) (lex_Print.f (k + 1) a0) := by
 intro a0 k
 obtain ⟨ih0, ih1⟩ := lex_Print.mono_l k
 unfold lex_Print.f
 repeat' first
   | (with_reducible exact ih0 _ _ _ _)
   | (with_reducible exact ih1 _ _ _ _ _ _ _ _)
   | (with_reducible exact lex_Right.mono _ _ _ _ _)
   | (with_reducible exact lex_quote.mono _ _)
   | (with_reducible exact LeO.refl _)
   | (with_reducible exact LeO.none _)
   | (with_reducible refine LeO.ite ?_ ?_)
   | (with_reducible refine LeO.bind ?_ (fun _ => ?_))
   | exact ih0 _ _ _ _
   | exact ih1 _ _ _ _ _ _ _ _
   | exact lex_Right.mono _ _ _ _ _
   | exact lex_quote.mono _ _
   | exact LeO.none _
   | refine LeO.ite ?_ ?_
   | refine LeO.bind ?_ (fun _ => ?_)
set_option maxHeartbeats 8000000 in
set_option maxRecDepth 100000 in
theorem lex_Print.calls (k : Nat) (A0 : Option Addr) (c0 : Nat) (l0 : List (S32)) (r1 : ByteArray) (r2 : Int) (w : World) (hr0 : Kd.C k32 w A0 l0.length l0) (hc0 : l0.length ≤ c0) (hrG0 : Kd.C Kd.string w AG0 lG0.length lG0) (hrG1 : Kd.C Kd.string w AG1 lG1.length lG1) (h : lex_Print.f k l0 = some (r1, r2)) :
  Calls Tryd.prog 20 #[.slice A0 l0.length c0] w fun e w' => e = .returned (.tuple #[.string r1, .int .i64 r2]) ∧ Below w.heap.size w w' := by
 have hu32 := Tryd.underlying32
 have HR0 := Aside0.mk hr0
 have HC0 := Aside0.mk hc0
 clear hr0 hc0
 have HRG0 := Aside0.mk hrG0
 have HCG0 := Aside0.mk (show lG0.length ≤ cG0 by decide)
 clear hrG0
 have HRG1 := Aside0.mk hrG1
 have HCG1 := Aside0.mk (show lG1.length ≤ cG1 by decide)
 clear hrG1
 have HB := Aside0.mk (Below.refl w.heap.size w)
 have H : (lex_Print.l0 k ([] : List Int) l0 (l0.length : Int) 0) = some (r1, r2) := h
 clear h
 have H' := Aside0.mk H
 clear H
 go_enter Tryd.func20, Tryd.ntmps20
 go_wp2
 go_loopg [4, 9] k (fun kq v4 v9 w' => ∃ (x4_1 : List Int) (x9_1 : Int), v9 = .int .i64 x9_1 ∧ Aside0 (lex_Print.l0 kq x4_1 l0 (l0.length : Int) x9_1 = some (r1, r2)) ∧ Aside0 (kq ≤ k) ∧ Aside0 (Kd.R (Kd.int .u8) 5 w' w.heap.size (fun _ => True) v4 x4_1) ∧ Aside0 (Below w.heap.size w w'))
 case atStart => exact ⟨(([] : List Int)), (0), (by first | rfl | (simp; done) | (simp [*]; done) | (simp [i64_w, u8_w]; done) | (simp; simp only [isEmpty_bne]; done)), H', ⟨Nat.le_refl _⟩, ⟨by first | exact Kd.R_nil _ _ _ _ _ | exact Kd.N_nil _ _ _ _ _ | exact Kd.V_nil _ _ _ _ _ | exact Kd.Q_nil _ _ _ _ _ | exact Kd.S_nil _ _ _ _ _⟩, ⟨by first | exact ai | (with_reducible exact HB.out)⟩⟩
 case round =>
  clear H'
  obtain ⟨x4_1, x9_1, rfl, HA, HK1, HO_4, HB⟩ := hrel
  cases gk with
  | zero => exact absurd HA.out (by simp [lex_Print.l0])
  | succ k1 =>
   have H := HA.out
   clear HA
   simp only [lex_Print.l0] at H
   by_cases c2 : x9_1 < (l0.length : Int)
   ·rw [if_pos c2] at H
    have c2b0 : decide (x9_1 < (l0.length : Int)) = true := decide_eq_true c2
    clear c2
    by_cases c3 : 0 ≤ x9_1
    ·rw [if_pos c3] at H
     have c3b0 : decide (0 ≤ x9_1) = true := decide_eq_true c3
     clear c3
     by_cases c4 : x9_1 < (l0.length : Int)
     ·rw [if_pos c4] at H
      have c4b0 : decide (x9_1 < (l0.length : Int)) = true := decide_eq_true c4
      clear c4
      replace H := Option.bind_eq_some_iff.mp H
      obtain ⟨t183, A50, H⟩ := H
      replace H : (if t183 = true then (if ((rd_T32 l0 x9_1).f0) = 0 then (lex_Print.l0 k1 x4_1 l0 (l0.length : Int) (wrap64 (x9_1 + 1))) else (if (x4_1.length : Int) > 0 then (if x4_1.length < 140737488355328 then (lex_Print.j1 k1 (x4_1 ++ [32]) l0 (l0.length : Int) x9_1 ((rd_T32 l0 x9_1).f0) ((rd_T32 l0 x9_1).f1) ((rd_T32 l0 x9_1).f2) ((rd_T32 l0 x9_1).f3)) else (none)) else (lex_Print.j1 k1 x4_1 l0 (l0.length : Int) x9_1 ((rd_T32 l0 x9_1).f0) ((rd_T32 l0 x9_1).f1) ((rd_T32 l0 x9_1).f2) ((rd_T32 l0 x9_1).f3)))) else (some ((⟨#[]⟩ : ByteArray), 1))) = some (r1, r2) := H
      have A5 := Aside0.mk A50
      clear A50
      by_cases c6 : t183 = true
      ·subst c6
       have H1 : (if ((rd_T32 l0 x9_1).f0) = 0 then (lex_Print.l0 k1 x4_1 l0 (l0.length : Int) (wrap64 (x9_1 + 1))) else (if (x4_1.length : Int) > 0 then (if x4_1.length < 140737488355328 then (lex_Print.j1 k1 (x4_1 ++ [32]) l0 (l0.length : Int) x9_1 ((rd_T32 l0 x9_1).f0) ((rd_T32 l0 x9_1).f1) ((rd_T32 l0 x9_1).f2) ((rd_T32 l0 x9_1).f3)) else (none)) else (lex_Print.j1 k1 x4_1 l0 (l0.length : Int) x9_1 ((rd_T32 l0 x9_1).f0) ((rd_T32 l0 x9_1).f1) ((rd_T32 l0 x9_1).f2) ((rd_T32 l0 x9_1).f3)))) = some (r1, r2) := by rw [if_pos rfl] at H; exact H
       clear H
       have H := H1
       clear H1
       by_cases c7 : ((rd_T32 l0 x9_1).f0) = 0
       ·rw [if_pos c7] at H
        have c7b0 : (((rd_T32 l0 x9_1).f0) == 0) = true := beq_iff_eq.mpr c7
        have c7b1 : (((rd_T32 l0 x9_1).f0) != 0) = false := bne_eq_false_iff_eq.mpr c7
        clear c7
        have H' := Aside0.mk H
        clear H
        have p181 : 0 ≤ (x9_1 : Int) := of_decide_eq_true (by first | (with_reducible assumption) | assumption)
        have q181 : x9_1 < (l0.length : Int) := of_decide_eq_true (by first | (with_reducible assumption) | assumption)
        obtain ⟨ad181, e181, hx181_0, hx181_1, hx181_2, hx181_3⟩ := at_T32 HR0.out x9_1 p181 q181
        cases e181
        replace hx181_0 := (HB.out.cell (World.block_lt_of_cell? w _ hx181_0)).trans hx181_0
        replace hx181_1 := (HB.out.cell (World.block_lt_of_cell? w _ hx181_1)).trans hx181_1
        replace hx181_2 := (HB.out.cell (World.block_lt_of_cell? w _ hx181_2)).trans hx181_2
        replace hx181_3 := (HB.out.cell (World.block_lt_of_cell? w _ hx181_3)).trans hx181_3
        replace p181 := eq_true p181
        replace q181 := eq_true q181
        go_wp2_with (first | ((with_reducible refine gate_dst (N := 6) rfl ?_); refine box_event ?hg (N := 6) ?hd (cs := #[.int .i64 0, .string (⟨#[]⟩ : ByteArray), .int .i64 0, .int .i64 0]) (t := 32) ?hr ?_; (case hd => rfl); (case hg => rfl); (case hr => first | (go_simp; done) | (go_simp; rfl)); intro gb182 hg w8 hbox hb; have n0_ := Aside0.mk (Kd.R_below (by exact Kd.R_up <| HO_4.out) hb); have n1_ := Aside0.mk (below_step (by first | exact ai | (with_reducible exact HB.out) : Below w.heap.size w _) hb); have n2_ := Aside0.mk (hbox); have n3_ := Aside0.mk ((by rw [hg]; exact (below_size (by first | exact ai | (with_reducible exact HB.out) : Below w.heap.size w _)) : w.heap.size ≤ gb182)); have n4_ := Aside0.mk ((by rw [hg]; exact (below_size (by first | exact ai | (with_reducible exact HB.out) : Below w.heap.size w _)) : w.heap.size ≤ gb182)); clear HO_4; clear HB; have HO_4 := n0_; have HB := n1_; have BK182 := n2_; have GW182 := n3_; have GE182 := n4_; clear n0_ n1_ n2_ n3_ n4_; clear hb hbox hg; have hcz9_0 : w8.cell? ⟨gb182, 0, none⟩ = some (.int .i64 0) := (blk_cell BK182.out 0).trans rfl; have hcz9_1 : w8.cell? ⟨gb182, 1, none⟩ = some (.string (⟨#[]⟩ : ByteArray)) := (blk_cell BK182.out 1).trans rfl; have hcz9_2 : w8.cell? ⟨gb182, 2, none⟩ = some (.int .i64 0) := (blk_cell BK182.out 2).trans rfl; have hcz9_3 : w8.cell? ⟨gb182, 3, none⟩ = some (.int .i64 0) := (blk_cell BK182.out 3).trans rfl; have hfz9_0 := blk_frozen BK182.out 0; have hfz9_1 := blk_frozen BK182.out 1; have hfz9_2 := blk_frozen BK182.out 2; have hfz9_3 := blk_frozen BK182.out 3) | ((with_reducible refine gate_callee (f := 18) rfl ?_); refine goesL_ (some 14) rfl rfl Tryd.func18 (by kernel_rfl) rfl #[.agg #[.int .i64 ((rd_T32 l0 x9_1).f0), .string ((rd_T32 l0 x9_1).f1), .int .i64 ((rd_T32 l0 x9_1).f2), .int .i64 ((rd_T32 l0 x9_1).f3)]] rfl (by (try simp only [List.map_toArray, List.map_cons, List.map_nil]); first | done | rfl | (simp only [List.length_drop, List.length_take]; rfl)) ?_; (with_reducible refine (lex_Right.calls k1 ((rd_T32 l0 x9_1).f0) ((rd_T32 l0 x9_1).f1) ((rd_T32 l0 x9_1).f2) ((rd_T32 l0 x9_1).f3) true _ ?side1 ?side2 A5.out).mono ?_); (case side1 => exact Kd.C_below HRG0.out (by first | exact ai | (with_reducible exact HB.out))); (case side2 => exact Kd.C_below HRG1.out (by first | exact ai | (with_reducible exact HB.out))); rintro e w10 ⟨rfl, hb⟩; refine ⟨_, rfl, ?_⟩; have n0_ := Aside0.mk (Kd.R_below (by exact Kd.R_up <| (Kd.R_mono (Kd.R_far (p := ⟨gb182, 3, none⟩) (Kd.R_far (p := ⟨gb182, 2, none⟩) (Kd.R_far (p := ⟨gb182, 1, none⟩) (Kd.R_far (p := ⟨gb182, 0, none⟩) (Kd.R_types HO_4.out BK182.out (by decide)) (fun _ hk => hk.2) (.int .i64 ((rd_T32 l0 x9_1).f0))) (fun _ hk => hk.2) (.string ((rd_T32 l0 x9_1).f1))) (fun _ hk => hk.2) (.int .i64 ((rd_T32 l0 x9_1).f2))) (fun _ hk => hk.2) (.int .i64 ((rd_T32 l0 x9_1).f3))) (fun _ h_ => h_.1))) hb); have n1_ := Aside0.mk (blk_below (g := gb182) (o := .cells #[.int .i64 ((rd_T32 l0 x9_1).f0), .string ((rd_T32 l0 x9_1).f1), .int .i64 ((rd_T32 l0 x9_1).f2), .int .i64 ((rd_T32 l0 x9_1).f3)] 32 (0, 0)) (by (with_reducible repeat (first | refine blk_drewN ?_ _ | refine blk_drew ?_ | refine blk_alloc ?_ _)); refine blk_put (cs := #[.int .i64 ((rd_T32 l0 x9_1).f0), .string ((rd_T32 l0 x9_1).f1), .int .i64 ((rd_T32 l0 x9_1).f2), .int .i64 0]) ?_ 3 _ rfl; (with_reducible repeat (first | refine blk_drewN ?_ _ | refine blk_drew ?_ | refine blk_alloc ?_ _)); refine blk_put (cs := #[.int .i64 ((rd_T32 l0 x9_1).f0), .string ((rd_T32 l0 x9_1).f1), .int .i64 0, .int .i64 0]) ?_ 2 _ rfl; (with_reducible repeat (first | refine blk_drewN ?_ _ | refine blk_drew ?_ | refine blk_alloc ?_ _)); refine blk_put (cs := #[.int .i64 ((rd_T32 l0 x9_1).f0), .string (⟨#[]⟩ : ByteArray), .int .i64 0, .int .i64 0]) ?_ 1 _ rfl; (with_reducible repeat (first | refine blk_drewN ?_ _ | refine blk_drew ?_ | refine blk_alloc ?_ _)); refine blk_put (cs := #[.int .i64 0, .string (⟨#[]⟩ : ByteArray), .int .i64 0, .int .i64 0]) ?_ 0 _ rfl; exact blk_up <| BK182.out) hb); have n2_ := Aside0.mk (below_step (by first | exact ai | (with_reducible exact HB.out) : Below w.heap.size w _) hb); clear HO_4; clear BK182; clear HB; have HO_4 := n0_; have BK182 := n1_; have HB := n2_; clear n0_ n1_ n2_; (try clear hb); (try clear hb2); (try clear hk); (try clear hi); have hcz11_0 : w10.cell? ⟨gb182, 0, none⟩ = some (.int .i64 ((rd_T32 l0 x9_1).f0)) := (blk_cell BK182.out 0).trans rfl; have hcz11_1 : w10.cell? ⟨gb182, 1, none⟩ = some (.string ((rd_T32 l0 x9_1).f1)) := (blk_cell BK182.out 1).trans rfl; have hcz11_2 : w10.cell? ⟨gb182, 2, none⟩ = some (.int .i64 ((rd_T32 l0 x9_1).f2)) := (blk_cell BK182.out 2).trans rfl; have hcz11_3 : w10.cell? ⟨gb182, 3, none⟩ = some (.int .i64 ((rd_T32 l0 x9_1).f3)) := (blk_cell BK182.out 3).trans rfl; have hfz11_0 := blk_frozen BK182.out 0; have hfz11_1 := blk_frozen BK182.out 1; have hfz11_2 := blk_frozen BK182.out 2; have hfz11_3 := blk_frozen BK182.out 3))
        go_roundg k1
        case measure => have := HK1.out; omega
        case rel => exact ⟨(x4_1), (wrap64 (x9_1 + 1)), (by first | rfl | (simp; done) | (simp [*]; done) | (simp [i64_w, u8_w]; done) | (simp; simp only [isEmpty_bne]; done)), H', ⟨by have := HK1.out; omega⟩, ⟨by exact Kd.R_up <| HO_4.out⟩, ⟨by first | exact ai | (with_reducible exact HB.out)⟩⟩
       ·rw [if_neg c7] at H
        have c7b0 : (((rd_T32 l0 x9_1).f0) == 0) = false := beq_eq_false_iff_ne.mpr c7
        have c7b1 : (((rd_T32 l0 x9_1).f0) != 0) = true := bne_iff_ne.mpr c7
        have HC12 := Aside0.mk H
        clear H
        have p181 : 0 ≤ (x9_1 : Int) := of_decide_eq_true (by first | (with_reducible assumption) | assumption)
        have q181 : x9_1 < (l0.length : Int) := of_decide_eq_true (by first | (with_reducible assumption) | assumption)
        obtain ⟨ad181, e181, hx181_0, hx181_1, hx181_2, hx181_3⟩ := at_T32 HR0.out x9_1 p181 q181
        cases e181
        replace hx181_0 := (HB.out.cell (World.block_lt_of_cell? w _ hx181_0)).trans hx181_0
        replace hx181_1 := (HB.out.cell (World.block_lt_of_cell? w _ hx181_1)).trans hx181_1
        replace hx181_2 := (HB.out.cell (World.block_lt_of_cell? w _ hx181_2)).trans hx181_2
        replace hx181_3 := (HB.out.cell (World.block_lt_of_cell? w _ hx181_3)).trans hx181_3
        replace p181 := eq_true p181
        replace q181 := eq_true q181
        go_upto_if 21 with (first | ((with_reducible refine gate_dst (N := 6) rfl ?_); refine box_event ?hg (N := 6) ?hd (cs := #[.int .i64 0, .string (⟨#[]⟩ : ByteArray), .int .i64 0, .int .i64 0]) (t := 32) ?hr ?_; (case hd => rfl); (case hg => rfl); (case hr => first | (go_simp; done) | (go_simp; rfl)); intro gb182 hg w13 hbox hb; have n0_ := Aside0.mk (Kd.R_below (by exact Kd.R_up <| HO_4.out) hb); have n1_ := Aside0.mk (below_step (by first | exact ai | (with_reducible exact HB.out) : Below w.heap.size w _) hb); have n2_ := Aside0.mk (hbox); have n3_ := Aside0.mk ((by rw [hg]; exact (below_size (by first | exact ai | (with_reducible exact HB.out) : Below w.heap.size w _)) : w.heap.size ≤ gb182)); have n4_ := Aside0.mk ((by rw [hg]; exact (below_size (by first | exact ai | (with_reducible exact HB.out) : Below w.heap.size w _)) : w.heap.size ≤ gb182)); clear HO_4; clear HB; have HO_4 := n0_; have HB := n1_; have BK182 := n2_; have GW182 := n3_; have GE182 := n4_; clear n0_ n1_ n2_ n3_ n4_; clear hb hbox hg; have hcz14_0 : w13.cell? ⟨gb182, 0, none⟩ = some (.int .i64 0) := (blk_cell BK182.out 0).trans rfl; have hcz14_1 : w13.cell? ⟨gb182, 1, none⟩ = some (.string (⟨#[]⟩ : ByteArray)) := (blk_cell BK182.out 1).trans rfl; have hcz14_2 : w13.cell? ⟨gb182, 2, none⟩ = some (.int .i64 0) := (blk_cell BK182.out 2).trans rfl; have hcz14_3 : w13.cell? ⟨gb182, 3, none⟩ = some (.int .i64 0) := (blk_cell BK182.out 3).trans rfl; have hfz14_0 := blk_frozen BK182.out 0; have hfz14_1 := blk_frozen BK182.out 1; have hfz14_2 := blk_frozen BK182.out 2; have hfz14_3 := blk_frozen BK182.out 3) | ((with_reducible refine gate_callee (f := 18) rfl ?_); refine goesL_ (some 14) rfl rfl Tryd.func18 (by kernel_rfl) rfl #[.agg #[.int .i64 ((rd_T32 l0 x9_1).f0), .string ((rd_T32 l0 x9_1).f1), .int .i64 ((rd_T32 l0 x9_1).f2), .int .i64 ((rd_T32 l0 x9_1).f3)]] rfl (by (try simp only [List.map_toArray, List.map_cons, List.map_nil]); first | done | rfl | (simp only [List.length_drop, List.length_take]; rfl)) ?_; (with_reducible refine (lex_Right.calls k1 ((rd_T32 l0 x9_1).f0) ((rd_T32 l0 x9_1).f1) ((rd_T32 l0 x9_1).f2) ((rd_T32 l0 x9_1).f3) true _ ?side1 ?side2 A5.out).mono ?_); (case side1 => exact Kd.C_below HRG0.out (by first | exact ai | (with_reducible exact HB.out))); (case side2 => exact Kd.C_below HRG1.out (by first | exact ai | (with_reducible exact HB.out))); rintro e w15 ⟨rfl, hb⟩; refine ⟨_, rfl, ?_⟩; have n0_ := Aside0.mk (Kd.R_below (by exact Kd.R_up <| (Kd.R_mono (Kd.R_far (p := ⟨gb182, 3, none⟩) (Kd.R_far (p := ⟨gb182, 2, none⟩) (Kd.R_far (p := ⟨gb182, 1, none⟩) (Kd.R_far (p := ⟨gb182, 0, none⟩) (Kd.R_types HO_4.out BK182.out (by decide)) (fun _ hk => hk.2) (.int .i64 ((rd_T32 l0 x9_1).f0))) (fun _ hk => hk.2) (.string ((rd_T32 l0 x9_1).f1))) (fun _ hk => hk.2) (.int .i64 ((rd_T32 l0 x9_1).f2))) (fun _ hk => hk.2) (.int .i64 ((rd_T32 l0 x9_1).f3))) (fun _ h_ => h_.1))) hb); have n1_ := Aside0.mk (blk_below (g := gb182) (o := .cells #[.int .i64 ((rd_T32 l0 x9_1).f0), .string ((rd_T32 l0 x9_1).f1), .int .i64 ((rd_T32 l0 x9_1).f2), .int .i64 ((rd_T32 l0 x9_1).f3)] 32 (0, 0)) (by (with_reducible repeat (first | refine blk_drewN ?_ _ | refine blk_drew ?_ | refine blk_alloc ?_ _)); refine blk_put (cs := #[.int .i64 ((rd_T32 l0 x9_1).f0), .string ((rd_T32 l0 x9_1).f1), .int .i64 ((rd_T32 l0 x9_1).f2), .int .i64 0]) ?_ 3 _ rfl; (with_reducible repeat (first | refine blk_drewN ?_ _ | refine blk_drew ?_ | refine blk_alloc ?_ _)); refine blk_put (cs := #[.int .i64 ((rd_T32 l0 x9_1).f0), .string ((rd_T32 l0 x9_1).f1), .int .i64 0, .int .i64 0]) ?_ 2 _ rfl; (with_reducible repeat (first | refine blk_drewN ?_ _ | refine blk_drew ?_ | refine blk_alloc ?_ _)); refine blk_put (cs := #[.int .i64 ((rd_T32 l0 x9_1).f0), .string (⟨#[]⟩ : ByteArray), .int .i64 0, .int .i64 0]) ?_ 1 _ rfl; (with_reducible repeat (first | refine blk_drewN ?_ _ | refine blk_drew ?_ | refine blk_alloc ?_ _)); refine blk_put (cs := #[.int .i64 0, .string (⟨#[]⟩ : ByteArray), .int .i64 0, .int .i64 0]) ?_ 0 _ rfl; exact blk_up <| BK182.out) hb); have n2_ := Aside0.mk (below_step (by first | exact ai | (with_reducible exact HB.out) : Below w.heap.size w _) hb); clear HO_4; clear BK182; clear HB; have HO_4 := n0_; have BK182 := n1_; have HB := n2_; clear n0_ n1_ n2_; (try clear hb); (try clear hb2); (try clear hk); (try clear hi); have hcz16_0 : w15.cell? ⟨gb182, 0, none⟩ = some (.int .i64 ((rd_T32 l0 x9_1).f0)) := (blk_cell BK182.out 0).trans rfl; have hcz16_1 : w15.cell? ⟨gb182, 1, none⟩ = some (.string ((rd_T32 l0 x9_1).f1)) := (blk_cell BK182.out 1).trans rfl; have hcz16_2 : w15.cell? ⟨gb182, 2, none⟩ = some (.int .i64 ((rd_T32 l0 x9_1).f2)) := (blk_cell BK182.out 2).trans rfl; have hcz16_3 : w15.cell? ⟨gb182, 3, none⟩ = some (.int .i64 ((rd_T32 l0 x9_1).f3)) := (blk_cell BK182.out 3).trans rfl; have hfz16_0 := blk_frozen BK182.out 0; have hfz16_1 := blk_frozen BK182.out 1; have hfz16_2 := blk_frozen BK182.out 2; have hfz16_3 := blk_frozen BK182.out 3; obtain ⟨Ao17, co17, eo17⟩ := Kd.R_slice HO_4.out; subst eo17))
        (try simp only [Act.put, List.setIfInBounds_toArray, List.set_cons_zero, List.set_cons_succ])
        go_cut [4] (fun v4 wc => ∃ (kq : Nat) (x4_11 : List Int), Aside0 (lex_Print.j1 kq x4_11 l0 (l0.length : Int) x9_1 ((rd_T32 l0 x9_1).f0) ((rd_T32 l0 x9_1).f1) ((rd_T32 l0 x9_1).f2) ((rd_T32 l0 x9_1).f3) = some (r1, r2)) ∧ Aside0 (kq ≤ k1) ∧ Aside0 (Kd.R (Kd.int .u8) 5 wc w.heap.size (fun _ => True) v4 x4_11) ∧ Aside0 (wc.heap[gb182]? = some (.cells #[.int .i64 ((rd_T32 l0 x9_1).f0), .string ((rd_T32 l0 x9_1).f1), .int .i64 ((rd_T32 l0 x9_1).f2), .int .i64 ((rd_T32 l0 x9_1).f3)] 32 (0, 0))) ∧ Aside0 (Below w.heap.size w wc))
        case first =>
         have H := HC12.out
         clear HC12
         by_cases c18 : (x4_1.length : Int) > 0
         ·rw [if_pos c18] at H
          have c18b0 : decide (0 < (x4_1.length : Int)) = true := decide_eq_true c18
          have c18b1 : decide (0 < x4_1.length) = true := decide_eq_true (by omega)
          clear c18
          (first | rw [c18b0] | rw [c18b1] | (simp only [i64_w, i32_w]; rw [c18b0]) | skip)
          by_cases c19 : x4_1.length < 140737488355328
          ·rw [if_pos c19] at H
           have LMc19 := Aside0.mk c19
           clear c19
           obtain ⟨y184, hy184⟩ : ∃ y_ : List Int, y_ = (x4_1 ++ [32]) := ⟨_, rfl⟩
           replace H : (lex_Print.j1 k1 y184 l0 (l0.length : Int) x9_1 ((rd_T32 l0 x9_1).f0) ((rd_T32 l0 x9_1).f1) ((rd_T32 l0 x9_1).f2) ((rd_T32 l0 x9_1).f3)) = some (r1, r2) := by first | (rw [hy184]; with_reducible exact H) | (have H2_ := (Option.bind_some _ _).symm.trans H; rw [hy184]; with_reducible exact H2_) | (have H2_ := (Option.bind_some _ _).symm.trans H; with_reducible exact H2_) | with_reducible exact H | (rw [hy184]; exact H) | exact H
           have Ny184 := Aside0.mk hy184
           clear hy184
           have H' := Aside0.mk H
           clear H
           go_wp2_with (first | ((with_reducible refine gate_builtin (b := .append) (xs := #[.tmp 22, .tmp 23]) rfl ?_); at_builtin; refine Kd.R_append (Kd.int .u8) (w0 := w) w.heap.size rfl (.tmp 22) (.tmp 23) 30 5 (.int .u8 0) 1 rfl Tryd.underlying30 info5 rfl (by decide) (by omega) (.slice Ao17 x4_1.length co17) x4_1 32 [.int .u8 32] (fun _ => True) (fun _ => False) rfl rfl ?aP (fun _ hk => hk.elim) ?aF ?aO ?aB ?aS ?aL ?_; (case aP => exact rfl); (case aB => exact (by first | exact ai | (with_reducible exact HB.out))); (case aF => exact (fun _ _ => trivial)); (case aO => exact (by exact Kd.R_up <| HO_4.out)); (case aS => exact (below_size (by first | exact ai | (with_reducible exact HB.out) : Below w.heap.size w _))); (case aL => have := LMc19.out; omega); intro v185 w20 ho hb hg hat; rw [← Ny184.out] at ho; have n0_ := Aside0.mk (blk_grown (g := gb182) (o := .cells #[.int .i64 ((rd_T32 l0 x9_1).f0), .string ((rd_T32 l0 x9_1).f1), .int .i64 ((rd_T32 l0 x9_1).f2), .int .i64 ((rd_T32 l0 x9_1).f3)] 32 (0, 0)) (by exact blk_up <| BK182.out) hg (Kd.R_ne HO_4.out BK182.out (by decide))); have n1_ := Aside0.mk (hb); have n2_ := Aside0.mk (ho); clear BK182; clear HB; clear HO_4; have BK182 := n0_; have HB := n1_; have HO186 := n2_; clear n0_ n1_ n2_; clear ho hb hg hat))
           go_meet
           case rel => exact ⟨_, (y184), H', ⟨by have := HK1.out; first | omega | exact Nat.le_refl _⟩, ⟨by exact Kd.R_up <| HO186.out⟩, ⟨by exact blk_up <| BK182.out⟩, ⟨by first | exact ai | (with_reducible exact HB.out)⟩⟩
          ·rw [if_neg c19] at H
           exact absurd H (by simp)
         ·rw [if_neg c18] at H
          have c18b0 : decide (0 < (x4_1.length : Int)) = false := decide_eq_false c18
          have c18b1 : decide (0 < x4_1.length) = false := decide_eq_false (by omega)
          clear c18
          (first | rw [c18b0] | rw [c18b1] | (simp only [i64_w, i32_w]; rw [c18b0]) | skip)
          have H' := Aside0.mk H
          clear H
          go_wp2
          go_meet
          case rel => exact ⟨_, (x4_1), H', ⟨by have := HK1.out; first | omega | exact Nat.le_refl _⟩, ⟨by exact Kd.R_up <| HO_4.out⟩, ⟨by exact blk_up <| BK182.out⟩, ⟨by first | exact ai | (with_reducible exact HB.out)⟩⟩
        case rest =>
         clear HC12
         (try clear c1); (try clear p1); (try clear q1); (try clear hx1); (try clear c2); (try clear c2b0); (try clear p2); (try clear c3); (try clear c3b0); (try clear c4); (try clear c4b0); (try clear c6); (try clear p6); (try clear c7); (try clear c7b0); (try clear c7b1); (try clear c18); (try clear c18b0); (try clear c18b1); (try clear p18); (try clear q18); (try clear hx18); (try clear c19); (try clear c20); (try clear hcz11_0); (try clear hcz11_1); (try clear hcz11_2); (try clear hcz11_3); (try clear hcz14_0); (try clear hcz14_1); (try clear hcz14_2); (try clear hcz14_3); (try clear hcz16_0); (try clear hcz16_1); (try clear hcz16_2); (try clear hcz16_3); (try clear hcz9_0); (try clear hcz9_1); (try clear hcz9_2); (try clear hcz9_3); (try clear hfz11_0); (try clear hfz11_1); (try clear hfz11_2); (try clear hfz11_3); (try clear hfz14_0); (try clear hfz14_1); (try clear hfz14_2); (try clear hfz14_3); (try clear hfz16_0); (try clear hfz16_1); (try clear hfz16_2); (try clear hfz16_3); (try clear hfz9_0); (try clear hfz9_1); (try clear hfz9_2); (try clear hfz9_3); (try clear hx181_0); (try clear hx181_1); (try clear hx181_2); (try clear hx181_3); (try clear p181); (try clear q181)
         obtain ⟨kq, x4_11, HA, HJ11, HO_4, BK182, HB⟩ := hcut
         cases kq with
         | zero => exact absurd HA.out (by simp [lex_Print.j1])
         | succ kj11 =>
          have H := HA.out
          clear HA
          simp only [lex_Print.j1] at H
          by_cases c21 : ((rd_T32 l0 x9_1).f0) = 1
          ·rw [if_pos c21] at H
           have c21b0 : (((rd_T32 l0 x9_1).f0) == 1) = true := beq_iff_eq.mpr c21
           have c21b1 : (((rd_T32 l0 x9_1).f0) != 1) = false := bne_eq_false_iff_eq.mpr c21
           clear c21
           replace H := Option.bind_eq_some_iff.mp H
           obtain ⟨t187, A220, H⟩ := H
           replace H : (if x4_11.length + t187.size < 140737488355328 then (lex_Print.l0 kj11 (x4_11 ++ bytesOf t187) l0 (l0.length : Int) (wrap64 (x9_1 + 1))) else (none)) = some (r1, r2) := H
           have A22 := Aside0.mk A220
           clear A220
           by_cases c23 : x4_11.length + t187.size < 140737488355328
           ·rw [if_pos c23] at H
            have LMc23 := Aside0.mk c23
            clear c23
            obtain ⟨y188, hy188⟩ : ∃ y_ : List Int, y_ = (x4_11 ++ bytesOf t187) := ⟨_, rfl⟩
            replace H : (lex_Print.l0 kj11 y188 l0 (l0.length : Int) (wrap64 (x9_1 + 1))) = some (r1, r2) := by first | (rw [hy188]; with_reducible exact H) | (have H2_ := (Option.bind_some _ _).symm.trans H; rw [hy188]; with_reducible exact H2_) | (have H2_ := (Option.bind_some _ _).symm.trans H; with_reducible exact H2_) | with_reducible exact H | (rw [hy188]; exact H) | exact H
            have Ny188 := Aside0.mk hy188
            clear hy188
            have H' := Aside0.mk H
            clear H
            have hcz24_0 : wc.cell? ⟨gb182, 0, none⟩ = some (.int .i64 ((rd_T32 l0 x9_1).f0)) := (blk_cell BK182.out 0).trans rfl
            have hcz24_1 : wc.cell? ⟨gb182, 1, none⟩ = some (.string ((rd_T32 l0 x9_1).f1)) := (blk_cell BK182.out 1).trans rfl
            have hcz24_2 : wc.cell? ⟨gb182, 2, none⟩ = some (.int .i64 ((rd_T32 l0 x9_1).f2)) := (blk_cell BK182.out 2).trans rfl
            have hcz24_3 : wc.cell? ⟨gb182, 3, none⟩ = some (.int .i64 ((rd_T32 l0 x9_1).f3)) := (blk_cell BK182.out 3).trans rfl
            have hfz24_0 := blk_frozen BK182.out 0
            have hfz24_1 := blk_frozen BK182.out 1
            have hfz24_2 := blk_frozen BK182.out 2
            have hfz24_3 := blk_frozen BK182.out 3
            go_wp2_with (first | ((with_reducible refine gate_callee (f := 35) rfl ?_); refine goesL_ (some 36) rfl rfl Tryd.func35 (by kernel_rfl) rfl #[.int .i64 ((rd_T32 l0 x9_1).f2)] rfl (by (try simp only [List.map_toArray, List.map_cons, List.map_nil]); first | done | rfl | (simp only [List.length_drop, List.length_take]; rfl)) ?_; (with_reducible refine (num_Text.calls ((rd_T32 l0 x9_1).f2) t187 _ A22.out).mono ?_); rintro e w25 ⟨rfl, hb⟩; refine ⟨_, rfl, ?_⟩; have n0_ := Aside0.mk (Kd.R_below (by exact Kd.R_up <| HO_4.out) hb); have n1_ := Aside0.mk (blk_below (g := gb182) (o := .cells #[.int .i64 ((rd_T32 l0 x9_1).f0), .string ((rd_T32 l0 x9_1).f1), .int .i64 ((rd_T32 l0 x9_1).f2), .int .i64 ((rd_T32 l0 x9_1).f3)] 32 (0, 0)) (by exact blk_up <| BK182.out) hb); have n2_ := Aside0.mk (below_step (by first | exact ai | (with_reducible exact HB.out) : Below w.heap.size w _) hb); clear HO_4; clear BK182; clear HB; have HO_4 := n0_; have BK182 := n1_; have HB := n2_; clear n0_ n1_ n2_; (try clear hb); (try clear hb2); (try clear hk); (try clear hi)) | (at_builtin; refine print_append_str (w0 := w) w.heap.size rfl (.tmp 33) _ 30 9 5 rfl Tryd.underlying30 Tryd.underlying9 info5 u4 x4_11 t187 rfl rfl ?aO ?aB ?aS ?aL ?_; (case aB => exact (by first | exact ai | (with_reducible exact HB.out))); (case aO => exact (Kd.own_of_R (by exact Kd.R_up <| HO_4.out))); (case aS => exact (below_size (by first | exact ai | (with_reducible exact HB.out) : Below w.heap.size w _))); (case aL => have := LMc23.out; omega); intro v189 w26 ho0 hb hg; have ho := Kd.R_of_own (h1 := fun _ => rfl) (ok := fun _ => True) ho0 (fun _ _ => trivial); clear ho0; have hat := True.intro; rw [← Ny188.out] at ho; change Kd.R (Kd.int .u8) 5 w26 w.heap.size (fun _ => True) v189 y188 at ho; have n0_ := Aside0.mk (blk_grown (g := gb182) (o := .cells #[.int .i64 ((rd_T32 l0 x9_1).f0), .string ((rd_T32 l0 x9_1).f1), .int .i64 ((rd_T32 l0 x9_1).f2), .int .i64 ((rd_T32 l0 x9_1).f3)] 32 (0, 0)) (by exact blk_up <| BK182.out) hg (Kd.R_ne HO_4.out BK182.out (by decide))); have n1_ := Aside0.mk (hb); have n2_ := Aside0.mk (ho); clear BK182; clear HB; clear HO_4; have BK182 := n0_; have HB := n1_; have HO190 := n2_; clear n0_ n1_ n2_; clear ho hb hg hat))
            go_roundg kj11
            case measure => have := HK1.out; have := HJ11.out; omega
            case rel => exact ⟨(y188), (wrap64 (x9_1 + 1)), (by first | rfl | (simp; done) | (simp [*]; done) | (simp [i64_w, u8_w]; done) | (simp; simp only [isEmpty_bne]; done)), H', ⟨by have := HK1.out; have := HJ11.out; omega⟩, ⟨by exact Kd.R_up <| HO190.out⟩, ⟨by first | exact ai | (with_reducible exact HB.out)⟩⟩
           ·rw [if_neg c23] at H
            exact absurd H (by simp)
          ·rw [if_neg c21] at H
           have c21b0 : (((rd_T32 l0 x9_1).f0) == 1) = false := beq_eq_false_iff_ne.mpr c21
           have c21b1 : (((rd_T32 l0 x9_1).f0) != 1) = true := bne_iff_ne.mpr c21
           by_cases c27 : ((rd_T32 l0 x9_1).f0) = 2
           ·rw [if_pos c27] at H
            have c27b0 : (((rd_T32 l0 x9_1).f0) == 2) = true := beq_iff_eq.mpr c27
            have c27b1 : (((rd_T32 l0 x9_1).f0) != 2) = false := bne_eq_false_iff_eq.mpr c27
            clear c27
            replace H := Option.bind_eq_some_iff.mp H
            obtain ⟨t191, A280, H⟩ := H
            replace H : (if x4_11.length + t191.length < 140737488355328 then (lex_Print.l0 kj11 (x4_11 ++ t191) l0 (l0.length : Int) (wrap64 (x9_1 + 1))) else (none)) = some (r1, r2) := H
            have A28 := Aside0.mk A280
            clear A280
            by_cases c29 : x4_11.length + t191.length < 140737488355328
            ·rw [if_pos c29] at H
             have LMc29 := Aside0.mk c29
             clear c29
             obtain ⟨y194, hy194⟩ : ∃ y_ : List Int, y_ = (x4_11 ++ t191) := ⟨_, rfl⟩
             replace H : (lex_Print.l0 kj11 y194 l0 (l0.length : Int) (wrap64 (x9_1 + 1))) = some (r1, r2) := by first | (rw [hy194]; with_reducible exact H) | (have H2_ := (Option.bind_some _ _).symm.trans H; rw [hy194]; with_reducible exact H2_) | (have H2_ := (Option.bind_some _ _).symm.trans H; with_reducible exact H2_) | with_reducible exact H | (rw [hy194]; exact H) | exact H
             have Ny194 := Aside0.mk hy194
             clear hy194
             have H' := Aside0.mk H
             clear H
             have hcz30_0 : wc.cell? ⟨gb182, 0, none⟩ = some (.int .i64 ((rd_T32 l0 x9_1).f0)) := (blk_cell BK182.out 0).trans rfl
             have hcz30_1 : wc.cell? ⟨gb182, 1, none⟩ = some (.string ((rd_T32 l0 x9_1).f1)) := (blk_cell BK182.out 1).trans rfl
             have hcz30_2 : wc.cell? ⟨gb182, 2, none⟩ = some (.int .i64 ((rd_T32 l0 x9_1).f2)) := (blk_cell BK182.out 2).trans rfl
             have hcz30_3 : wc.cell? ⟨gb182, 3, none⟩ = some (.int .i64 ((rd_T32 l0 x9_1).f3)) := (blk_cell BK182.out 3).trans rfl
             have hfz30_0 := blk_frozen BK182.out 0
             have hfz30_1 := blk_frozen BK182.out 1
             have hfz30_2 := blk_frozen BK182.out 2
             have hfz30_3 := blk_frozen BK182.out 3
             go_wp2_with (first | ((with_reducible refine gate_callee (f := 36) rfl ?_); refine goesL_ (some 43) rfl rfl Tryd.func36 (by kernel_rfl) rfl #[.string ((rd_T32 l0 x9_1).f1)] rfl (by (try simp only [List.map_toArray, List.map_cons, List.map_nil]); first | done | rfl | (simp only [List.length_drop, List.length_take]; rfl)) ?_; (with_reducible refine (lex_quote.calls kj11 ((rd_T32 l0 x9_1).f1) t191 _ A28.out).mono ?_); rintro e w31 ⟨v192, rfl, ho0, hb⟩; refine ⟨_, rfl, ?_⟩; have n0_ := Aside0.mk (Kd.R_elder' (by exact Kd.R_up <| HO_4.out) (Kd.R_base ho0) hb); have n1_ := Aside0.mk (Kd.R_lower (Kd.R_new' ho0 (Kd.R_lt (by exact Kd.R_up <| HO_4.out))) (below_size (by first | exact ai | (with_reducible exact HB.out) : Below w.heap.size w _))); have n2_ := Aside0.mk (blk_below (g := gb182) (o := .cells #[.int .i64 ((rd_T32 l0 x9_1).f0), .string ((rd_T32 l0 x9_1).f1), .int .i64 ((rd_T32 l0 x9_1).f2), .int .i64 ((rd_T32 l0 x9_1).f3)] 32 (0, 0)) (by exact blk_up <| BK182.out) hb); have n3_ := Aside0.mk (below_step (by first | exact ai | (with_reducible exact HB.out) : Below w.heap.size w _) hb); clear HO_4; clear BK182; clear HB; have HO_4 := n0_; have HO193 := n1_; have BK182 := n2_; have HB := n3_; clear n0_ n1_ n2_ n3_; (try clear hb); (try clear hb2); (try clear hk); (try clear hi); (try clear ho0); obtain ⟨Ao33, co33, eo33⟩ := Kd.R_slice HO193.out; subst eo33) | ((with_reducible refine gate_builtin (b := .append) (xs := #[.tmp 40, .tmp 43]) rfl ?_); at_builtin; refine Kd.R_append_rows (Kd.int .u8) (w0 := w) w.heap.size rfl (.tmp 40) (.tmp 43) 30 5 (.int .u8 0) 1 rfl Tryd.underlying30 info5 rfl (by decide) (by omega) u4 x4_11 t191 _ _ _ (fun k_ => some k_ ≠ (.slice Ao33 t191.length co33 : Value).ownBlock) (fun _ => False) rfl rfl ?aO ?aR (fun _ _ h => h) (fun _ h => h.elim) ?aF ?aB ?aS ?aL ?_; (case aR => exact Kd.C_up <| (Kd.R_reads' HO193.out).2.2); (case aB => exact (by first | exact ai | (with_reducible exact HB.out))); (case aF => exact (fun k_ hk => Kd.fresh' (Kd.R_lt (by exact Kd.R_up <| HO193.out)) k_ hk)); (case aO => exact (by exact Kd.R_up <| Kd.R_mono HO_4.out (fun _ hk => hk.2))); (case aS => exact (below_size (by first | exact ai | (with_reducible exact HB.out) : Below w.heap.size w _))); (case aL => have := LMc29.out; omega); intro v195 w32 ho hb hg hat; rw [← Ny194.out] at ho; have n0_ := Aside0.mk (blk_grown (g := gb182) (o := .cells #[.int .i64 ((rd_T32 l0 x9_1).f0), .string ((rd_T32 l0 x9_1).f1), .int .i64 ((rd_T32 l0 x9_1).f2), .int .i64 ((rd_T32 l0 x9_1).f3)] 32 (0, 0)) (by exact blk_up <| BK182.out) hg (Kd.R_ne HO_4.out BK182.out (by decide))); have n1_ := Aside0.mk (Kd.R_after (ok := (fun _ => True)) (by exact Kd.R_up <| HO193.out) hg hat); have n2_ := Aside0.mk (hb); have n3_ := Aside0.mk (ho); clear BK182; clear HO193; clear HB; clear HO_4; have BK182 := n0_; have HO193 := n1_; have HB := n2_; have HO196 := n3_; clear n0_ n1_ n2_ n3_; clear ho hb hg hat))
             go_roundg kj11
             case measure => have := HK1.out; have := HJ11.out; omega
             case rel => exact ⟨(y194), (wrap64 (x9_1 + 1)), (by first | rfl | (simp; done) | (simp [*]; done) | (simp [i64_w, u8_w]; done) | (simp; simp only [isEmpty_bne]; done)), H', ⟨by have := HK1.out; have := HJ11.out; omega⟩, ⟨by exact Kd.R_up <| Kd.R_mono HO196.out (fun _ hk => trivial)⟩, ⟨by first | exact ai | (with_reducible exact HB.out)⟩⟩
            ·rw [if_neg c29] at H
             exact absurd H (by simp)
           ·rw [if_neg c27] at H
            have c27b0 : (((rd_T32 l0 x9_1).f0) == 2) = false := beq_eq_false_iff_ne.mpr c27
            have c27b1 : (((rd_T32 l0 x9_1).f0) != 2) = true := bne_iff_ne.mpr c27
            by_cases c34 : x4_11.length + ((rd_T32 l0 x9_1).f1).size < 140737488355328
            ·rw [if_pos c34] at H
             have LMc34 := Aside0.mk c34
             clear c34
             obtain ⟨y197, hy197⟩ : ∃ y_ : List Int, y_ = (x4_11 ++ bytesOf ((rd_T32 l0 x9_1).f1)) := ⟨_, rfl⟩
             replace H : (lex_Print.l0 kj11 y197 l0 (l0.length : Int) (wrap64 (x9_1 + 1))) = some (r1, r2) := by first | (rw [hy197]; with_reducible exact H) | (have H2_ := (Option.bind_some _ _).symm.trans H; rw [hy197]; with_reducible exact H2_) | (have H2_ := (Option.bind_some _ _).symm.trans H; with_reducible exact H2_) | with_reducible exact H | (rw [hy197]; exact H) | exact H
             have Ny197 := Aside0.mk hy197
             clear hy197
             have H' := Aside0.mk H
             clear H
             have hcz35_0 : wc.cell? ⟨gb182, 0, none⟩ = some (.int .i64 ((rd_T32 l0 x9_1).f0)) := (blk_cell BK182.out 0).trans rfl
             have hcz35_1 : wc.cell? ⟨gb182, 1, none⟩ = some (.string ((rd_T32 l0 x9_1).f1)) := (blk_cell BK182.out 1).trans rfl
             have hcz35_2 : wc.cell? ⟨gb182, 2, none⟩ = some (.int .i64 ((rd_T32 l0 x9_1).f2)) := (blk_cell BK182.out 2).trans rfl
             have hcz35_3 : wc.cell? ⟨gb182, 3, none⟩ = some (.int .i64 ((rd_T32 l0 x9_1).f3)) := (blk_cell BK182.out 3).trans rfl
             have hfz35_0 := blk_frozen BK182.out 0
             have hfz35_1 := blk_frozen BK182.out 1
             have hfz35_2 := blk_frozen BK182.out 2
             have hfz35_3 := blk_frozen BK182.out 3
             go_wp2_with (first | (at_builtin; refine print_append_str (w0 := w) w.heap.size rfl (.tmp 27) _ 30 9 5 rfl Tryd.underlying30 Tryd.underlying9 info5 u4 x4_11 ((rd_T32 l0 x9_1).f1) rfl rfl ?aO ?aB ?aS ?aL ?_; (case aB => exact (by first | exact ai | (with_reducible exact HB.out))); (case aO => exact (Kd.own_of_R (by exact Kd.R_up <| HO_4.out))); (case aS => exact (below_size (by first | exact ai | (with_reducible exact HB.out) : Below w.heap.size w _))); (case aL => have := LMc34.out; omega); intro v198 w36 ho0 hb hg; have ho := Kd.R_of_own (h1 := fun _ => rfl) (ok := fun _ => True) ho0 (fun _ _ => trivial); clear ho0; have hat := True.intro; rw [← Ny197.out] at ho; change Kd.R (Kd.int .u8) 5 w36 w.heap.size (fun _ => True) v198 y197 at ho; have n0_ := Aside0.mk (blk_grown (g := gb182) (o := .cells #[.int .i64 ((rd_T32 l0 x9_1).f0), .string ((rd_T32 l0 x9_1).f1), .int .i64 ((rd_T32 l0 x9_1).f2), .int .i64 ((rd_T32 l0 x9_1).f3)] 32 (0, 0)) (by exact blk_up <| BK182.out) hg (Kd.R_ne HO_4.out BK182.out (by decide))); have n1_ := Aside0.mk (hb); have n2_ := Aside0.mk (ho); clear BK182; clear HB; clear HO_4; have BK182 := n0_; have HB := n1_; have HO199 := n2_; clear n0_ n1_ n2_; clear ho hb hg hat))
             go_roundg kj11
             case measure => have := HK1.out; have := HJ11.out; omega
             case rel => exact ⟨(y197), (wrap64 (x9_1 + 1)), (by first | rfl | (simp; done) | (simp [*]; done) | (simp [i64_w, u8_w]; done) | (simp; simp only [isEmpty_bne]; done)), H', ⟨by have := HK1.out; have := HJ11.out; omega⟩, ⟨by exact Kd.R_up <| HO199.out⟩, ⟨by first | exact ai | (with_reducible exact HB.out)⟩⟩
            ·rw [if_neg c34] at H
             exact absurd H (by simp)
      ·replace c6 := Bool.eq_false_iff.mpr c6
       subst c6
       have H1 : (some ((⟨#[]⟩ : ByteArray), 1)) = some (r1, r2) := by rw [if_neg (show ¬ (false = true) by decide)] at H; exact H
       clear H
       have H := H1
       clear H1
       simp only [Option.some.injEq, Prod.mk.injEq] at H
       obtain ⟨rfl, rfl⟩ := H
       have p181 : 0 ≤ (x9_1 : Int) := of_decide_eq_true (by first | (with_reducible assumption) | assumption)
       have q181 : x9_1 < (l0.length : Int) := of_decide_eq_true (by first | (with_reducible assumption) | assumption)
       obtain ⟨ad181, e181, hx181_0, hx181_1, hx181_2, hx181_3⟩ := at_T32 HR0.out x9_1 p181 q181
       cases e181
       replace hx181_0 := (HB.out.cell (World.block_lt_of_cell? w _ hx181_0)).trans hx181_0
       replace hx181_1 := (HB.out.cell (World.block_lt_of_cell? w _ hx181_1)).trans hx181_1
       replace hx181_2 := (HB.out.cell (World.block_lt_of_cell? w _ hx181_2)).trans hx181_2
       replace hx181_3 := (HB.out.cell (World.block_lt_of_cell? w _ hx181_3)).trans hx181_3
       replace p181 := eq_true p181
       replace q181 := eq_true q181
       go_wp2_with (first | ((with_reducible refine gate_dst (N := 6) rfl ?_); refine box_event ?hg (N := 6) ?hd (cs := #[.int .i64 0, .string (⟨#[]⟩ : ByteArray), .int .i64 0, .int .i64 0]) (t := 32) ?hr ?_; (case hd => rfl); (case hg => rfl); (case hr => first | (go_simp; done) | (go_simp; rfl)); intro gb182 hg w37 hbox hb; have n0_ := Aside0.mk (Kd.R_below (by exact Kd.R_up <| HO_4.out) hb); have n1_ := Aside0.mk (below_step (by first | exact ai | (with_reducible exact HB.out) : Below w.heap.size w _) hb); have n2_ := Aside0.mk (hbox); have n3_ := Aside0.mk ((by rw [hg]; exact (below_size (by first | exact ai | (with_reducible exact HB.out) : Below w.heap.size w _)) : w.heap.size ≤ gb182)); have n4_ := Aside0.mk ((by rw [hg]; exact (below_size (by first | exact ai | (with_reducible exact HB.out) : Below w.heap.size w _)) : w.heap.size ≤ gb182)); clear HO_4; clear HB; have HO_4 := n0_; have HB := n1_; have BK182 := n2_; have GW182 := n3_; have GE182 := n4_; clear n0_ n1_ n2_ n3_ n4_; clear hb hbox hg; have hcz38_0 : w37.cell? ⟨gb182, 0, none⟩ = some (.int .i64 0) := (blk_cell BK182.out 0).trans rfl; have hcz38_1 : w37.cell? ⟨gb182, 1, none⟩ = some (.string (⟨#[]⟩ : ByteArray)) := (blk_cell BK182.out 1).trans rfl; have hcz38_2 : w37.cell? ⟨gb182, 2, none⟩ = some (.int .i64 0) := (blk_cell BK182.out 2).trans rfl; have hcz38_3 : w37.cell? ⟨gb182, 3, none⟩ = some (.int .i64 0) := (blk_cell BK182.out 3).trans rfl; have hfz38_0 := blk_frozen BK182.out 0; have hfz38_1 := blk_frozen BK182.out 1; have hfz38_2 := blk_frozen BK182.out 2; have hfz38_3 := blk_frozen BK182.out 3) | ((with_reducible refine gate_callee (f := 18) rfl ?_); refine goesL_ (some 14) rfl rfl Tryd.func18 (by kernel_rfl) rfl #[.agg #[.int .i64 ((rd_T32 l0 x9_1).f0), .string ((rd_T32 l0 x9_1).f1), .int .i64 ((rd_T32 l0 x9_1).f2), .int .i64 ((rd_T32 l0 x9_1).f3)]] rfl (by (try simp only [List.map_toArray, List.map_cons, List.map_nil]); first | done | rfl | (simp only [List.length_drop, List.length_take]; rfl)) ?_; (with_reducible refine (lex_Right.calls k1 ((rd_T32 l0 x9_1).f0) ((rd_T32 l0 x9_1).f1) ((rd_T32 l0 x9_1).f2) ((rd_T32 l0 x9_1).f3) false _ ?side1 ?side2 A5.out).mono ?_); (case side1 => exact Kd.C_below HRG0.out (by first | exact ai | (with_reducible exact HB.out))); (case side2 => exact Kd.C_below HRG1.out (by first | exact ai | (with_reducible exact HB.out))); rintro e w39 ⟨rfl, hb⟩; refine ⟨_, rfl, ?_⟩; have n0_ := Aside0.mk (Kd.R_below (by exact Kd.R_up <| (Kd.R_mono (Kd.R_far (p := ⟨gb182, 3, none⟩) (Kd.R_far (p := ⟨gb182, 2, none⟩) (Kd.R_far (p := ⟨gb182, 1, none⟩) (Kd.R_far (p := ⟨gb182, 0, none⟩) (Kd.R_types HO_4.out BK182.out (by decide)) (fun _ hk => hk.2) (.int .i64 ((rd_T32 l0 x9_1).f0))) (fun _ hk => hk.2) (.string ((rd_T32 l0 x9_1).f1))) (fun _ hk => hk.2) (.int .i64 ((rd_T32 l0 x9_1).f2))) (fun _ hk => hk.2) (.int .i64 ((rd_T32 l0 x9_1).f3))) (fun _ h_ => h_.1))) hb); have n1_ := Aside0.mk (blk_below (g := gb182) (o := .cells #[.int .i64 ((rd_T32 l0 x9_1).f0), .string ((rd_T32 l0 x9_1).f1), .int .i64 ((rd_T32 l0 x9_1).f2), .int .i64 ((rd_T32 l0 x9_1).f3)] 32 (0, 0)) (by (with_reducible repeat (first | refine blk_drewN ?_ _ | refine blk_drew ?_ | refine blk_alloc ?_ _)); refine blk_put (cs := #[.int .i64 ((rd_T32 l0 x9_1).f0), .string ((rd_T32 l0 x9_1).f1), .int .i64 ((rd_T32 l0 x9_1).f2), .int .i64 0]) ?_ 3 _ rfl; (with_reducible repeat (first | refine blk_drewN ?_ _ | refine blk_drew ?_ | refine blk_alloc ?_ _)); refine blk_put (cs := #[.int .i64 ((rd_T32 l0 x9_1).f0), .string ((rd_T32 l0 x9_1).f1), .int .i64 0, .int .i64 0]) ?_ 2 _ rfl; (with_reducible repeat (first | refine blk_drewN ?_ _ | refine blk_drew ?_ | refine blk_alloc ?_ _)); refine blk_put (cs := #[.int .i64 ((rd_T32 l0 x9_1).f0), .string (⟨#[]⟩ : ByteArray), .int .i64 0, .int .i64 0]) ?_ 1 _ rfl; (with_reducible repeat (first | refine blk_drewN ?_ _ | refine blk_drew ?_ | refine blk_alloc ?_ _)); refine blk_put (cs := #[.int .i64 0, .string (⟨#[]⟩ : ByteArray), .int .i64 0, .int .i64 0]) ?_ 0 _ rfl; exact blk_up <| BK182.out) hb); have n2_ := Aside0.mk (below_step (by first | exact ai | (with_reducible exact HB.out) : Below w.heap.size w _) hb); clear HO_4; clear BK182; clear HB; have HO_4 := n0_; have BK182 := n1_; have HB := n2_; clear n0_ n1_ n2_; (try clear hb); (try clear hb2); (try clear hk); (try clear hi)))
       go_ret2
       exact ⟨by first | rfl | (simp [errW_none, errW_some] <;> rfl) | (simp [*, errW_none, errW_some] <;> rfl), by first | exact ai | (with_reducible exact HB.out)⟩
     ·rw [if_neg c4] at H
      exact absurd H (by simp)
    ·rw [if_neg c3] at H
     exact absurd H (by simp)
   ·rw [if_neg c2] at H
    have c2b0 : decide (x9_1 < (l0.length : Int)) = false := decide_eq_false c2
    clear c2
    simp only [Option.some.injEq, Prod.mk.injEq] at H
    obtain ⟨rfl, rfl⟩ := H
    have hcv40 := own_string (P := Tryd.prog) Tryd.underlying30 Tryd.underlying5 Tryd.underlying9 (Kd.own_of_R HO_4.out)
    go_wp2
    go_ret2
    exact ⟨by first | rfl | (simp [errW_none, errW_some] <;> rfl) | (simp [*, errW_none, errW_some] <;> rfl), by first | exact ai | (with_reducible exact HB.out)⟩


end Go.Proofs.YtnihjlnnllngeaaDoor.PL
