-- Printed by kprint.py, lay.py, programs of this claim's author over the kit's printer.
import Derived.Test.YtnihjlnnllngeaaDoorF0
namespace Go.Proofs.YtnihjlnnllngeaaDoor.PL
open Go.RowKit Go.Proofs.YtnihjlnnllngeaaDoorW.PrintWords Go.Proofs.YtnihjlnnllngeaaDoorW.PrintLast Go.Proofs.YtnihjlnnllngeaaDoorW.PrintMore
attribute [local go_sem] max2_int min2_int max_two min_two max_three min_three max_four min_four   -- for this text's walks alone
set_option linter.unusedVariables false
set_option linter.unusedSimpArgs false

/-! ### lex_scanner_pass: function 23 -/
mutual
def lex_scanner_pass.l0 : Nat → Int → Int → ByteArray → Int → Option (Bool × ByteArray × Int)
 | 0, _, _, _, _ => none
 | k + 1, x3, x4, x1000, x1001 => if x1001 < (x1000.size : Int) then (if 0 ≤ x1001 then (if (wrap64 (x1001 + 1)) < (x1000.size : Int) then (if x1001 ≤ (wrap64 (x1001 + 2)) then (if (wrap64 (x1001 + 2)) ≤ (x1000.size : Int) then (lex_scanner_pass.j1 k x3 x4 (bt x1000 x1001) (x1000.extract (x1001 : Int).toNat ((wrap64 (x1001 + 2)) : Int).toNat) x1000 x1001) else (none)) else (none)) else (lex_scanner_pass.j1 k x3 x4 (bt x1000 x1001) (⟨#[]⟩ : ByteArray) x1000 x1001)) else (none)) else (if x3 > 0 then (some ((x3 == 0), x1000, x4)) else (some ((x3 == 0), x1000, x1001)))
def lex_scanner_pass.j1 : Nat → Int → Int → Int → ByteArray → ByteArray → Int → Option (Bool × ByteArray × Int)
 | 0, _, _, _, _, _, _ => none
 | k + 1, x3, x4, x5, x6, x1000, x1001 => if x6.toList = ([40, 42] : List UInt8) then (if x3 = 0 then (lex_scanner_pass.l0 k (wrap64 (x3 + 1)) x1001 x1000 (wrap64 (x1001 + 2))) else (lex_scanner_pass.l0 k (wrap64 (x3 + 1)) x4 x1000 (wrap64 (x1001 + 2)))) else (if x3 > 0 then (lex_scanner_pass.j2 k x3 x4 x5 (x6.toList == ([42, 41] : List UInt8)) x1000 x1001) else (lex_scanner_pass.j2 k x3 x4 x5 false x1000 x1001))
def lex_scanner_pass.j2 : Nat → Int → Int → Int → Bool → ByteArray → Int → Option (Bool × ByteArray × Int)
 | 0, _, _, _, _, _, _ => none
 | k + 1, x3, x4, x5, x69, x1000, x1001 => if x69 = true then (lex_scanner_pass.l0 k (wrap64 (x3 - 1)) x4 x1000 (wrap64 (x1001 + 2))) else (if x3 > 0 then (lex_scanner_pass.j3 k x3 x4 true x1000 x1001) else (if x5 = 9 then (lex_scanner_pass.j3 k x3 x4 true x1000 x1001) else (if x5 = 10 then (lex_scanner_pass.j3 k x3 x4 true x1000 x1001) else (if x5 = 13 then (lex_scanner_pass.j3 k x3 x4 true x1000 x1001) else (lex_scanner_pass.j3 k x3 x4 (x5 == 32) x1000 x1001)))))
def lex_scanner_pass.j3 : Nat → Int → Int → Bool → ByteArray → Int → Option (Bool × ByteArray × Int)
 | 0, _, _, _, _, _ => none
 | k + 1, x3, x4, x85, x1000, x1001 => if x85 = true then (lex_scanner_pass.l0 k x3 x4 x1000 (wrap64 (x1001 + 1))) else (some (true, x1000, x1001))
end
def lex_scanner_pass.f (k : Nat) (s0_0 : ByteArray) (s0_1 : Int) : Option (Bool × ByteArray × Int) := lex_scanner_pass.l0 k 0 0 s0_0 s0_1
theorem lex_scanner_pass.mono_l : ∀ k, (∀ y0 y1 y2 y3, LeO (lex_scanner_pass.l0 k y0 y1 y2 y3) (lex_scanner_pass.l0 (k + 1) y0 y1 y2 y3)) ∧ (∀ y0 y1 y2 y3 y4 y5, LeO (lex_scanner_pass.j1 k y0 y1 y2 y3 y4 y5) (lex_scanner_pass.j1 (k + 1) y0 y1 y2 y3 y4 y5)) ∧ (∀ y0 y1 y2 y3 y4 y5, LeO (lex_scanner_pass.j2 k y0 y1 y2 y3 y4 y5) (lex_scanner_pass.j2 (k + 1) y0 y1 y2 y3 y4 y5)) ∧ (∀ y0 y1 y2 y3 y4, LeO (lex_scanner_pass.j3 k y0 y1 y2 y3 y4) (lex_scanner_pass.j3 (k + 1) y0 y1 y2 y3 y4))
 | 0 => ⟨fun _ _ _ _ r h => by simp [lex_scanner_pass.l0] at h, fun _ _ _ _ _ _ r h => by simp [lex_scanner_pass.j1] at h, fun _ _ _ _ _ _ r h => by simp [lex_scanner_pass.j2] at h, fun _ _ _ _ _ r h => by simp [lex_scanner_pass.j3] at h⟩
 | k + 1 => by
  obtain ⟨ih0, ih1, ih2, ih3⟩ := lex_scanner_pass.mono_l k
  refine ⟨?_, ?_, ?_, ?_⟩
  ·intro y0 y1 y2 y3
   unfold lex_scanner_pass.l0
   repeat' first
   | (with_reducible exact ih0 _ _ _ _)
   | (with_reducible exact ih1 _ _ _ _ _ _)
   | (with_reducible exact ih2 _ _ _ _ _ _)
   | (with_reducible exact ih3 _ _ _ _ _)
   | (with_reducible exact LeO.refl _)
   | (with_reducible exact LeO.none _)
   | (with_reducible refine LeO.ite ?_ ?_)
   | (with_reducible refine LeO.bind ?_ (fun _ => ?_))
   | exact ih0 _ _ _ _
   | exact ih1 _ _ _ _ _ _
   | exact ih2 _ _ _ _ _ _
   | exact ih3 _ _ _ _ _
   | exact LeO.none _
   | refine LeO.ite ?_ ?_
   | refine LeO.bind ?_ (fun _ => ?_)
  ·intro y0 y1 y2 y3 y4 y5
   unfold lex_scanner_pass.j1
   repeat' first
   | (with_reducible exact ih0 _ _ _ _)
   | (with_reducible exact ih1 _ _ _ _ _ _)
   | (with_reducible exact ih2 _ _ _ _ _ _)
   | (with_reducible exact ih3 _ _ _ _ _)
   | (with_reducible exact LeO.refl _)
   | (with_reducible exact LeO.none _)
   | (with_reducible refine LeO.ite ?_ ?_)
   | (with_reducible refine LeO.bind ?_ (fun _ => ?_))
   | exact ih0 _ _ _ _
   | exact ih1 _ _ _ _ _ _
   | exact ih2 _ _ _ _ _ _
   | exact ih3 _ _ _ _ _
   | exact LeO.none _
   | refine LeO.ite ?_ ?_
   | refine LeO.bind ?_ (fun _ => ?_)
  ·intro y0 y1 y2 y3 y4 y5
   unfold lex_scanner_pass.j2
   repeat' first
   | (with_reducible exact ih0 _ _ _ _)
   | (with_reducible exact ih1 _ _ _ _ _ _)
   | (with_reducible exact ih2 _ _ _ _ _ _)
   | (with_reducible exact ih3 _ _ _ _ _)
   | (with_reducible exact LeO.refl _)
   | (with_reducible exact LeO.none _)
   | (with_reducible refine LeO.ite ?_ ?_)
   | (with_reducible refine LeO.bind ?_ (fun _ => ?_))
   | exact ih0 _ _ _ _
   | exact ih1 _ _ _ _ _ _
   | exact ih2 _ _ _ _ _ _
   | exact ih3 _ _ _ _ _
   | exact LeO.none _
   | refine LeO.ite ?_ ?_
   | refine LeO.bind ?_ (fun _ => ?_)
  ·intro y0 y1 y2 y3 y4
   unfold lex_scanner_pass.j3
   repeat' first
   | (with_reducible exact ih0 _ _ _ _)
   | (with_reducible exact ih1 _ _ _ _ _ _)
   | (with_reducible exact ih2 _ _ _ _ _ _)
   | (with_reducible exact ih3 _ _ _ _ _)
   | (with_reducible exact LeO.refl _)
   | (with_reducible exact LeO.none _)
   | (with_reducible refine LeO.ite ?_ ?_)
   | (with_reducible refine LeO.bind ?_ (fun _ => ?_))
   | exact ih0 _ _ _ _
   | exact ih1 _ _ _ _ _ _
   | exact ih2 _ _ _ _ _ _
   | exact ih3 _ _ _ _ _
   | exact LeO.none _
   | refine LeO.ite ?_ ?_
   | refine LeO.bind ?_ (fun _ => ?_)
theorem lex_scanner_pass.mono : ∀ a0 a1 k, LeO (lex_scanner_pass.f k a0 a1) (lex_scanner_pass.f (k + 1) a0 a1) := by
 intro a0 a1 k
 obtain ⟨ih0, ih1, ih2, ih3⟩ := lex_scanner_pass.mono_l k
 unfold lex_scanner_pass.f
 repeat' first
   | (with_reducible exact ih0 _ _ _ _)
   | (with_reducible exact ih1 _ _ _ _ _ _)
   | (with_reducible exact ih2 _ _ _ _ _ _)
   | (with_reducible exact ih3 _ _ _ _ _)
   | (with_reducible exact LeO.refl _)
   | (with_reducible exact LeO.none _)
   | (with_reducible refine LeO.ite ?_ ?_)
   | (with_reducible refine LeO.bind ?_ (fun _ => ?_))
   | exact ih0 _ _ _ _
   | exact ih1 _ _ _ _ _ _
   | exact ih2 _ _ _ _ _ _
   | exact ih3 _ _ _ _ _
   | exact LeO.none _
   | refine LeO.ite ?_ ?_
   | refine LeO.bind ?_ (fun _ => ?_)
set_option maxHeartbeats 8000000 in
set_option maxRecDepth 100000 in
theorem lex_scanner_pass.calls (k : Nat) (g : Nat) (s0_0 : ByteArray) (s0_1 : Int) (r1 : Bool) (r2 : ByteArray) (r3 : Int) (w0 w : World) (hI : IsS44 w0 w g s0_0 s0_1) (hB : Below w0.heap.size w0 w) (h : lex_scanner_pass.f k s0_0 s0_1 = some (r1, r2, r3)) :
  Calls Tryd.prog 23 #[.pointer (some ⟨g, 0, none⟩)] w fun e w' => e = .returned (.bool r1) ∧ IsS44 w0 w' g r2 r3 ∧ Below w0.heap.size w0 w' ∧ KeepBut w w' g none := by
 have HI0 := Aside0.mk hI
 have HK := Aside0.mk (KeepBut.refl w g none)
 have HL := Aside0.mk hB.size
 have HGE := Aside0.mk hI.ge
 clear hI
 have HW0 := Aside0.mk hB.size
 have HB := Aside0.mk hB
 clear hB
 have H : (lex_scanner_pass.l0 k 0 0 s0_0 s0_1) = some (r1, r2, r3) := h
 clear h
 have H' := Aside0.mk H
 clear H
 go_enter Tryd.func23, Tryd.ntmps23
 go_wp2
 repeat (go_quiet (fail); try go_wp2)
 go_loopg [3, 4] k (fun kq v3 v4 w' => ∃ (x3_1 : Int) (x4_1 : Int) (x1001_1 : Int), v3 = .int .i64 x3_1 ∧ v4 = .int .i64 x4_1 ∧ Aside0 (lex_scanner_pass.l0 kq x3_1 x4_1 s0_0 x1001_1 = some (r1, r2, r3)) ∧ Aside0 (kq ≤ k) ∧ Aside0 (IsS44 w0 w' g s0_0 x1001_1) ∧ Aside0 (KeepBut w w' g none) ∧ Aside0 (Below w0.heap.size w0 w'))
 case atStart => exact ⟨(0), (0), (s0_1), (by first | rfl | (simp; done) | (simp [*]; done) | (simp [i64_w, u8_w]; done) | (simp; simp only [isEmpty_bne]; done)), (by first | rfl | (simp; done) | (simp [*]; done) | (simp [i64_w, u8_w]; done) | (simp; simp only [isEmpty_bne]; done)), H', ⟨Nat.le_refl _⟩, ⟨by first | exact ai | exact HI0.out⟩, ⟨by first | exact ai | exact HK.out⟩, ⟨by first | exact ai | (with_reducible exact HB.out)⟩⟩
 case round =>
  clear H'
  obtain ⟨x3_1, x4_1, x1001_1, rfl, rfl, HA, HK1, HI0, HK, HB⟩ := hrel
  cases gk with
  | zero => exact absurd HA.out (by simp [lex_scanner_pass.l0])
  | succ k1 =>
   have H := HA.out
   clear HA
   simp only [lex_scanner_pass.l0] at H
   by_cases c2 : x1001_1 < (s0_0.size : Int)
   ·rw [if_pos c2] at H
    have c2b0 : decide (x1001_1 < (s0_0.size : Int)) = true := decide_eq_true c2
    clear c2
    by_cases c3 : 0 ≤ x1001_1
    ·rw [if_pos c3] at H
     have c3b0 : decide (0 ≤ x1001_1) = true := decide_eq_true c3
     clear c3
     have HC5 := Aside0.mk H
     clear H
     obtain ⟨HGz6, hgz6⟩ := HI0.out
     have hcz6_0 := cellS44_0 HGz6
     have hcz6_1 := cellS44_1 HGz6
     have hfz6_0 := blk_frozen HGz6 0
     have hfz6_1 := blk_frozen HGz6 1
     clear HGz6 hgz6
     have p4 : 0 ≤ (x1001_1 : Int) := of_decide_eq_true (by first | (with_reducible assumption) | assumption)
     have q4 : x1001_1 < (s0_0.size : Int) := of_decide_eq_true (by first | (with_reducible assumption) | assumption)
     have hx4 := bt_at s0_0 x1001_1
     replace p4 := eq_true p4
     replace q4 := eq_true q4
     go_upto_if 36 with (fail)
     repeat (go_quiet (fail); go_upto_if 36 with (fail))
     go_cut [6] (fun v6 wc => ∃ (kq : Nat) (x6_4 : ByteArray), v6 = .string x6_4 ∧ Aside0 (lex_scanner_pass.j1 kq x3_1 x4_1 (bt s0_0 x1001_1) x6_4 s0_0 x1001_1 = some (r1, r2, r3)) ∧ Aside0 (kq ≤ k1) ∧ Aside0 (IsS44 w0 wc g s0_0 x1001_1) ∧ Aside0 (KeepBut w wc g none) ∧ Aside0 (Below w0.heap.size w0 wc))
     case first =>
      have H := HC5.out
      clear HC5
      by_cases c7 : (wrap64 (x1001_1 + 1)) < (s0_0.size : Int)
      ·rw [if_pos c7] at H
       have c7b0 : decide ((wrap64 (x1001_1 + 1)) < (s0_0.size : Int)) = true := decide_eq_true c7
       clear c7
       (first | rw [c7b0] | (simp only [i64_w, i32_w]; rw [c7b0]) | skip)
       have c8b0 := eq_true (of_decide_eq_true (by first | (with_reducible assumption) | assumption) : 0 ≤ x1001_1)
       by_cases c9 : x1001_1 ≤ (wrap64 (x1001_1 + 2))
       ·rw [if_pos c9] at H
        have c9b0 := eq_true c9
        have c9b1 : decide (x1001_1 ≤ (wrap64 (x1001_1 + 2))) = true := decide_eq_true c9
        by_cases c10 : (wrap64 (x1001_1 + 2)) ≤ (s0_0.size : Int)
        ·rw [if_pos c10] at H
         have c10b0 := eq_true c10
         have c10b1 : decide ((wrap64 (x1001_1 + 2)) ≤ (s0_0.size : Int)) = true := decide_eq_true c10
         have H' := Aside0.mk H
         clear H
         obtain ⟨HGz11, hgz11⟩ := HI0.out
         have hcz11_0 := cellS44_0 HGz11
         have hcz11_1 := cellS44_1 HGz11
         have hfz11_0 := blk_frozen HGz11 0
         have hfz11_1 := blk_frozen HGz11 1
         clear HGz11 hgz11
         go_wp2
         repeat (go_quiet (fail); try go_wp2)
         go_meet
         case rel => exact ⟨_, (s0_0.extract (x1001_1 : Int).toNat ((wrap64 (x1001_1 + 2)) : Int).toNat), (by first | rfl | (simp; done) | (simp [*]; done) | (simp [i64_w, u8_w]; done) | (simp; simp only [isEmpty_bne]; done)), H', ⟨by have := HK1.out; first | omega | exact Nat.le_refl _⟩, ⟨by first | exact ai | exact HI0.out⟩, ⟨by first | exact ai | exact HK.out⟩, ⟨by first | exact ai | (with_reducible exact HB.out)⟩⟩
        ·rw [if_neg c10] at H
         exact absurd H (by simp)
       ·rw [if_neg c9] at H
        exact absurd H (by simp)
      ·rw [if_neg c7] at H
       have c7b0 : decide ((wrap64 (x1001_1 + 1)) < (s0_0.size : Int)) = false := decide_eq_false c7
       clear c7
       (first | rw [c7b0] | (simp only [i64_w, i32_w]; rw [c7b0]) | skip)
       have H' := Aside0.mk H
       clear H
       go_wp2
       repeat (go_quiet (fail); try go_wp2)
       go_meet
       case rel => exact ⟨_, ((⟨#[]⟩ : ByteArray)), (by first | rfl | (simp; done) | (simp [*]; done) | (simp [i64_w, u8_w]; done) | (simp; simp only [isEmpty_bne]; done)), H', ⟨by have := HK1.out; first | omega | exact Nat.le_refl _⟩, ⟨by first | exact ai | exact HI0.out⟩, ⟨by first | exact ai | exact HK.out⟩, ⟨by first | exact ai | (with_reducible exact HB.out)⟩⟩
     case rest =>
      clear HC5
      (try clear c1); (try clear c2); (try clear c2b0); (try clear p2); (try clear c3); (try clear c3b0); (try clear p4); (try clear q4); (try clear hx4); (try clear p6); (try clear c7); (try clear c7b0); (try clear c8); (try clear c8b0); (try clear c9); (try clear c9b0); (try clear c9b1); (try clear c10); (try clear c10b0); (try clear c10b1); (try clear hcz11_0); (try clear hcz11_1); (try clear hcz6_0); (try clear hcz6_1); (try clear hfz11_0); (try clear hfz11_1); (try clear hfz6_0); (try clear hfz6_1); (try clear p4); (try clear q4)
      obtain ⟨kq, x6_4, rfl, HA, HJ4, HI0, HK, HB⟩ := hcut
      cases kq with
      | zero => exact absurd HA.out (by simp [lex_scanner_pass.j1])
      | succ kj4 =>
       have H := HA.out
       clear HA
       simp only [lex_scanner_pass.j1] at H
       by_cases c12 : x6_4.toList = ([40, 42] : List UInt8)
       ·rw [if_pos c12] at H
        have c12b0 : (x6_4.toList == ([40, 42] : List UInt8)) = true := beq_iff_eq.mpr c12
        have c12b1 : (x6_4.toList != ([40, 42] : List UInt8)) = false := bne_eq_false_iff_eq.mpr c12
        clear c12
        by_cases c13 : x3_1 = 0
        ·rw [if_pos c13] at H
         have c13b0 : (x3_1 == 0) = true := beq_iff_eq.mpr c13
         have c13b1 : (x3_1 != 0) = false := bne_eq_false_iff_eq.mpr c13
         clear c13
         have H' := Aside0.mk H
         clear H
         obtain ⟨HGz14, hgz14⟩ := HI0.out
         have hcz14_0 := cellS44_0 HGz14
         have hcz14_1 := cellS44_1 HGz14
         have hfz14_0 := blk_frozen HGz14 0
         have hfz14_1 := blk_frozen HGz14 1
         clear HGz14 hgz14
         go_wp2
         repeat (go_quiet (fail); try go_wp2)
         go_roundg kj4
         case measure => have := HK1.out; have := HJ4.out; omega
         case rel => exact ⟨(wrap64 (x3_1 + 1)), (x1001_1), (wrap64 (x1001_1 + 2)), (by first | rfl | (simp; done) | (simp [*]; done) | (simp [i64_w, u8_w]; done) | (simp; simp only [isEmpty_bne]; done)), (by first | rfl | (simp; done) | (simp [*]; done) | (simp [i64_w, u8_w]; done) | (simp; simp only [isEmpty_bne]; done)), H', ⟨by have := HK1.out; have := HJ4.out; omega⟩, ⟨by repeat (first | (with_reducible first | exact HI0.out | apply IsS44.alloc | apply IsS44.drewN | apply IsS44.drew | apply IsS44.set_0 | apply IsS44.set_1) | exact HI0.out)⟩, ⟨by first | exact ai | exact HK.out⟩, ⟨by first | exact ai | (with_reducible exact HB.out)⟩⟩
        ·rw [if_neg c13] at H
         have c13b0 : (x3_1 == 0) = false := beq_eq_false_iff_ne.mpr c13
         have c13b1 : (x3_1 != 0) = true := bne_iff_ne.mpr c13
         have H' := Aside0.mk H
         clear H
         obtain ⟨HGz15, hgz15⟩ := HI0.out
         have hcz15_0 := cellS44_0 HGz15
         have hcz15_1 := cellS44_1 HGz15
         have hfz15_0 := blk_frozen HGz15 0
         have hfz15_1 := blk_frozen HGz15 1
         clear HGz15 hgz15
         go_wp2
         repeat (go_quiet (fail); try go_wp2)
         go_roundg kj4
         case measure => have := HK1.out; have := HJ4.out; omega
         case rel => exact ⟨(wrap64 (x3_1 + 1)), (x4_1), (wrap64 (x1001_1 + 2)), (by first | rfl | (simp; done) | (simp [*]; done) | (simp [i64_w, u8_w]; done) | (simp; simp only [isEmpty_bne]; done)), (by first | rfl | (simp; done) | (simp [*]; done) | (simp [i64_w, u8_w]; done) | (simp; simp only [isEmpty_bne]; done)), H', ⟨by have := HK1.out; have := HJ4.out; omega⟩, ⟨by repeat (first | (with_reducible first | exact HI0.out | apply IsS44.alloc | apply IsS44.drewN | apply IsS44.drew | apply IsS44.set_0 | apply IsS44.set_1) | exact HI0.out)⟩, ⟨by first | exact ai | exact HK.out⟩, ⟨by first | exact ai | (with_reducible exact HB.out)⟩⟩
       ·rw [if_neg c12] at H
        have c12b0 : (x6_4.toList == ([40, 42] : List UInt8)) = false := beq_eq_false_iff_ne.mpr c12
        have c12b1 : (x6_4.toList != ([40, 42] : List UInt8)) = true := bne_iff_ne.mpr c12
        have HC16 := Aside0.mk H
        clear H
        go_upto_region 13 with (fail)
        repeat (go_quiet (fail); go_upto_region 13 with (fail))
        go_cut [69] (fun v69 wc => ∃ (kq : Nat) (x69_15 : Bool), v69 = .bool x69_15 ∧ Aside0 (lex_scanner_pass.j2 kq x3_1 x4_1 (bt s0_0 x1001_1) x69_15 s0_0 x1001_1 = some (r1, r2, r3)) ∧ Aside0 (kq ≤ kj4) ∧ Aside0 (IsS44 w0 wc g s0_0 x1001_1) ∧ Aside0 (KeepBut w wc g none) ∧ Aside0 (Below w0.heap.size w0 wc))
        case first =>
         have H := HC16.out
         clear HC16
         by_cases c17 : x3_1 > 0
         ·rw [if_pos c17] at H
          have c17b0 : decide (0 < x3_1) = true := decide_eq_true c17
          clear c17
          (first | rw [c17b0] | (simp only [i64_w, i32_w]; rw [c17b0]) | skip)
          have H' := Aside0.mk H
          clear H
          go_wp2
          repeat (go_quiet (fail); try go_wp2)
          go_meet
          case rel => exact ⟨_, ((x6_4.toList == ([42, 41] : List UInt8))), (by first | rfl | (simp; done) | (simp [*]; done) | (simp [i64_w, u8_w]; done) | (simp; simp only [isEmpty_bne]; done)), H', ⟨by have := HK1.out; have := HJ4.out; first | omega | exact Nat.le_refl _⟩, ⟨by first | exact ai | exact HI0.out⟩, ⟨by first | exact ai | exact HK.out⟩, ⟨by first | exact ai | (with_reducible exact HB.out)⟩⟩
         ·rw [if_neg c17] at H
          have c17b0 : decide (0 < x3_1) = false := decide_eq_false c17
          clear c17
          (first | rw [c17b0] | (simp only [i64_w, i32_w]; rw [c17b0]) | skip)
          have H' := Aside0.mk H
          clear H
          go_wp2
          repeat (go_quiet (fail); try go_wp2)
          go_meet
          case rel => exact ⟨_, (false), (by first | rfl | (simp; done) | (simp [*]; done) | (simp [i64_w, u8_w]; done) | (simp; simp only [isEmpty_bne]; done)), H', ⟨by have := HK1.out; have := HJ4.out; first | omega | exact Nat.le_refl _⟩, ⟨by first | exact ai | exact HI0.out⟩, ⟨by first | exact ai | exact HK.out⟩, ⟨by first | exact ai | (with_reducible exact HB.out)⟩⟩
        case rest =>
         clear HC16
         (try clear c1); (try clear c2); (try clear c2b0); (try clear p2); (try clear c3); (try clear c3b0); (try clear p4); (try clear q4); (try clear hx4); (try clear p6); (try clear c7); (try clear c7b0); (try clear c8); (try clear c8b0); (try clear c9); (try clear c9b0); (try clear c9b1); (try clear c10); (try clear c10b0); (try clear c10b1); (try clear c12); (try clear c12b0); (try clear c12b1); (try clear c13); (try clear c13b0); (try clear c13b1); (try clear c17); (try clear c17b0); (try clear hcz11_0); (try clear hcz11_1); (try clear hcz14_0); (try clear hcz14_1); (try clear hcz15_0); (try clear hcz15_1); (try clear hcz6_0); (try clear hcz6_1); (try clear hfz11_0); (try clear hfz11_1); (try clear hfz14_0); (try clear hfz14_1); (try clear hfz15_0); (try clear hfz15_1); (try clear hfz6_0); (try clear hfz6_1); (try clear p2); (try clear p4); (try clear p6); (try clear q4)
         obtain ⟨kq, x69_15, rfl, HA, HJ15, HI0, HK, HB⟩ := hcut
         cases kq with
         | zero => exact absurd HA.out (by simp [lex_scanner_pass.j2])
         | succ kj15 =>
          have H := HA.out
          clear HA
          simp only [lex_scanner_pass.j2] at H
          by_cases c18 : x69_15 = true
          ·subst c18
           have H1 : (lex_scanner_pass.l0 kj15 (wrap64 (x3_1 - 1)) x4_1 s0_0 (wrap64 (x1001_1 + 2))) = some (r1, r2, r3) := by rw [if_pos rfl] at H; exact H
           clear H
           have H := H1
           clear H1
           have H' := Aside0.mk H
           clear H
           obtain ⟨HGz19, hgz19⟩ := HI0.out
           have hcz19_0 := cellS44_0 HGz19
           have hcz19_1 := cellS44_1 HGz19
           have hfz19_0 := blk_frozen HGz19 0
           have hfz19_1 := blk_frozen HGz19 1
           clear HGz19 hgz19
           go_wp2
           repeat (go_quiet (fail); try go_wp2)
           go_roundg kj15
           case measure => have := HK1.out; have := HJ4.out; have := HJ15.out; omega
           case rel => exact ⟨(wrap64 (x3_1 - 1)), (x4_1), (wrap64 (x1001_1 + 2)), (by first | rfl | (simp; done) | (simp [*]; done) | (simp [i64_w, u8_w]; done) | (simp; simp only [isEmpty_bne]; done)), (by first | rfl | (simp; done) | (simp [*]; done) | (simp [i64_w, u8_w]; done) | (simp; simp only [isEmpty_bne]; done)), H', ⟨by have := HK1.out; have := HJ4.out; have := HJ15.out; omega⟩, ⟨by repeat (first | (with_reducible first | exact HI0.out | apply IsS44.alloc | apply IsS44.drewN | apply IsS44.drew | apply IsS44.set_0 | apply IsS44.set_1) | exact HI0.out)⟩, ⟨by first | exact ai | exact HK.out⟩, ⟨by first | exact ai | (with_reducible exact HB.out)⟩⟩
          ·replace c18 := Bool.eq_false_iff.mpr c18
           subst c18
           have H1 : (if x3_1 > 0 then (lex_scanner_pass.j3 kj15 x3_1 x4_1 true s0_0 x1001_1) else (if (bt s0_0 x1001_1) = 9 then (lex_scanner_pass.j3 kj15 x3_1 x4_1 true s0_0 x1001_1) else (if (bt s0_0 x1001_1) = 10 then (lex_scanner_pass.j3 kj15 x3_1 x4_1 true s0_0 x1001_1) else (if (bt s0_0 x1001_1) = 13 then (lex_scanner_pass.j3 kj15 x3_1 x4_1 true s0_0 x1001_1) else (lex_scanner_pass.j3 kj15 x3_1 x4_1 ((bt s0_0 x1001_1) == 32) s0_0 x1001_1))))) = some (r1, r2, r3) := by rw [if_neg (show ¬ (false = true) by decide)] at H; exact H
           clear H
           have H := H1
           clear H1
           have HC20 := Aside0.mk H
           clear H
           go_upto_region 16 with (fail)
           repeat (go_quiet (fail); go_upto_region 16 with (fail))
           go_cut [85] (fun v85 wc => ∃ (kq : Nat) (x85_19 : Bool), v85 = .bool x85_19 ∧ Aside0 (lex_scanner_pass.j3 kq x3_1 x4_1 x85_19 s0_0 x1001_1 = some (r1, r2, r3)) ∧ Aside0 (kq ≤ kj15) ∧ Aside0 (IsS44 w0 wc g s0_0 x1001_1) ∧ Aside0 (KeepBut w wc g none) ∧ Aside0 (Below w0.heap.size w0 wc))
           case first =>
            have H := HC20.out
            clear HC20
            by_cases c21 : x3_1 > 0
            ·rw [if_pos c21] at H
             have c21b0 : decide (0 < x3_1) = true := decide_eq_true c21
             clear c21
             (first | rw [c21b0] | (simp only [i64_w, i32_w]; rw [c21b0]) | skip)
             have H' := Aside0.mk H
             clear H
             go_wp2
             repeat (go_quiet (fail); try go_wp2)
             go_meet
             case rel => exact ⟨_, (true), (by first | rfl | (simp; done) | (simp [*]; done) | (simp [i64_w, u8_w]; done) | (simp; simp only [isEmpty_bne]; done)), H', ⟨by have := HK1.out; have := HJ4.out; have := HJ15.out; first | omega | exact Nat.le_refl _⟩, ⟨by first | exact ai | exact HI0.out⟩, ⟨by first | exact ai | exact HK.out⟩, ⟨by first | exact ai | (with_reducible exact HB.out)⟩⟩
            ·rw [if_neg c21] at H
             have c21b0 : decide (0 < x3_1) = false := decide_eq_false c21
             clear c21
             (first | rw [c21b0] | (simp only [i64_w, i32_w]; rw [c21b0]) | skip)
             by_cases c22 : (bt s0_0 x1001_1) = 9
             ·rw [if_pos c22] at H
              have c22b0 : ((bt s0_0 x1001_1) == 9) = true := beq_iff_eq.mpr c22
              have c22b1 : ((bt s0_0 x1001_1) != 9) = false := bne_eq_false_iff_eq.mpr c22
              clear c22
              have H' := Aside0.mk H
              clear H
              go_wp2
              repeat (go_quiet (fail); try go_wp2)
              go_meet
              case rel => exact ⟨_, (true), (by first | rfl | (simp; done) | (simp [*]; done) | (simp [i64_w, u8_w]; done) | (simp; simp only [isEmpty_bne]; done)), H', ⟨by have := HK1.out; have := HJ4.out; have := HJ15.out; first | omega | exact Nat.le_refl _⟩, ⟨by first | exact ai | exact HI0.out⟩, ⟨by first | exact ai | exact HK.out⟩, ⟨by first | exact ai | (with_reducible exact HB.out)⟩⟩
             ·rw [if_neg c22] at H
              have c22b0 : ((bt s0_0 x1001_1) == 9) = false := beq_eq_false_iff_ne.mpr c22
              have c22b1 : ((bt s0_0 x1001_1) != 9) = true := bne_iff_ne.mpr c22
              by_cases c23 : (bt s0_0 x1001_1) = 10
              ·rw [if_pos c23] at H
               have c23b0 : ((bt s0_0 x1001_1) == 10) = true := beq_iff_eq.mpr c23
               have c23b1 : ((bt s0_0 x1001_1) != 10) = false := bne_eq_false_iff_eq.mpr c23
               clear c23
               have H' := Aside0.mk H
               clear H
               go_wp2
               repeat (go_quiet (fail); try go_wp2)
               go_meet
               case rel => exact ⟨_, (true), (by first | rfl | (simp; done) | (simp [*]; done) | (simp [i64_w, u8_w]; done) | (simp; simp only [isEmpty_bne]; done)), H', ⟨by have := HK1.out; have := HJ4.out; have := HJ15.out; first | omega | exact Nat.le_refl _⟩, ⟨by first | exact ai | exact HI0.out⟩, ⟨by first | exact ai | exact HK.out⟩, ⟨by first | exact ai | (with_reducible exact HB.out)⟩⟩
              ·rw [if_neg c23] at H
               have c23b0 : ((bt s0_0 x1001_1) == 10) = false := beq_eq_false_iff_ne.mpr c23
               have c23b1 : ((bt s0_0 x1001_1) != 10) = true := bne_iff_ne.mpr c23
               by_cases c24 : (bt s0_0 x1001_1) = 13
               ·rw [if_pos c24] at H
                have c24b0 : ((bt s0_0 x1001_1) == 13) = true := beq_iff_eq.mpr c24
                have c24b1 : ((bt s0_0 x1001_1) != 13) = false := bne_eq_false_iff_eq.mpr c24
                clear c24
                have H' := Aside0.mk H
                clear H
                go_wp2
                repeat (go_quiet (fail); try go_wp2)
                go_meet
                case rel => exact ⟨_, (true), (by first | rfl | (simp; done) | (simp [*]; done) | (simp [i64_w, u8_w]; done) | (simp; simp only [isEmpty_bne]; done)), H', ⟨by have := HK1.out; have := HJ4.out; have := HJ15.out; first | omega | exact Nat.le_refl _⟩, ⟨by first | exact ai | exact HI0.out⟩, ⟨by first | exact ai | exact HK.out⟩, ⟨by first | exact ai | (with_reducible exact HB.out)⟩⟩
               ·rw [if_neg c24] at H
                have c24b0 : ((bt s0_0 x1001_1) == 13) = false := beq_eq_false_iff_ne.mpr c24
                have c24b1 : ((bt s0_0 x1001_1) != 13) = true := bne_iff_ne.mpr c24
                have H' := Aside0.mk H
                clear H
                go_wp2
                repeat (go_quiet (fail); try go_wp2)
                go_meet
                case rel => exact ⟨_, (((bt s0_0 x1001_1) == 32)), (by first | rfl | (simp; done) | (simp [*]; done) | (simp [i64_w, u8_w]; done) | (simp; simp only [isEmpty_bne]; done)), H', ⟨by have := HK1.out; have := HJ4.out; have := HJ15.out; first | omega | exact Nat.le_refl _⟩, ⟨by first | exact ai | exact HI0.out⟩, ⟨by first | exact ai | exact HK.out⟩, ⟨by first | exact ai | (with_reducible exact HB.out)⟩⟩
           case rest =>
            clear HC20
            (try clear c1); (try clear c2); (try clear c2b0); (try clear p2); (try clear c3); (try clear c3b0); (try clear p4); (try clear q4); (try clear hx4); (try clear p6); (try clear c7); (try clear c7b0); (try clear c8); (try clear c8b0); (try clear c9); (try clear c9b0); (try clear c9b1); (try clear c10); (try clear c10b0); (try clear c10b1); (try clear c12); (try clear c12b0); (try clear c12b1); (try clear c13); (try clear c13b0); (try clear c13b1); (try clear c17); (try clear c17b0); (try clear c18); (try clear c21); (try clear c21b0); (try clear c22); (try clear c22b0); (try clear c22b1); (try clear c23); (try clear c23b0); (try clear c23b1); (try clear c24); (try clear c24b0); (try clear c24b1); (try clear hcz11_0); (try clear hcz11_1); (try clear hcz14_0); (try clear hcz14_1); (try clear hcz15_0); (try clear hcz15_1); (try clear hcz19_0); (try clear hcz19_1); (try clear hcz6_0); (try clear hcz6_1); (try clear hfz11_0); (try clear hfz11_1); (try clear hfz14_0); (try clear hfz14_1); (try clear hfz15_0); (try clear hfz15_1); (try clear hfz19_0); (try clear hfz19_1); (try clear hfz6_0); (try clear hfz6_1); (try clear p2); (try clear p4); (try clear p6); (try clear q4)
            obtain ⟨kq, x85_19, rfl, HA, HJ19, HI0, HK, HB⟩ := hcut
            cases kq with
            | zero => exact absurd HA.out (by simp [lex_scanner_pass.j3])
            | succ kj19 =>
             have H := HA.out
             clear HA
             simp only [lex_scanner_pass.j3] at H
             by_cases c25 : x85_19 = true
             ·subst c25
              have H1 : (lex_scanner_pass.l0 kj19 x3_1 x4_1 s0_0 (wrap64 (x1001_1 + 1))) = some (r1, r2, r3) := by rw [if_pos rfl] at H; exact H
              clear H
              have H := H1
              clear H1
              have H' := Aside0.mk H
              clear H
              obtain ⟨HGz26, hgz26⟩ := HI0.out
              have hcz26_0 := cellS44_0 HGz26
              have hcz26_1 := cellS44_1 HGz26
              have hfz26_0 := blk_frozen HGz26 0
              have hfz26_1 := blk_frozen HGz26 1
              clear HGz26 hgz26
              go_wp2
              repeat (go_quiet (fail); try go_wp2)
              go_roundg kj19
              case measure => have := HK1.out; have := HJ4.out; have := HJ15.out; have := HJ19.out; omega
              case rel => exact ⟨(x3_1), (x4_1), (wrap64 (x1001_1 + 1)), (by first | rfl | (simp; done) | (simp [*]; done) | (simp [i64_w, u8_w]; done) | (simp; simp only [isEmpty_bne]; done)), (by first | rfl | (simp; done) | (simp [*]; done) | (simp [i64_w, u8_w]; done) | (simp; simp only [isEmpty_bne]; done)), H', ⟨by have := HK1.out; have := HJ4.out; have := HJ15.out; have := HJ19.out; omega⟩, ⟨by repeat (first | (with_reducible first | exact HI0.out | apply IsS44.alloc | apply IsS44.drewN | apply IsS44.drew | apply IsS44.set_0 | apply IsS44.set_1) | exact HI0.out)⟩, ⟨by first | exact ai | exact HK.out⟩, ⟨by first | exact ai | (with_reducible exact HB.out)⟩⟩
             ·replace c25 := Bool.eq_false_iff.mpr c25
              subst c25
              have H1 : (some (true, s0_0, x1001_1)) = some (r1, r2, r3) := by rw [if_neg (show ¬ (false = true) by decide)] at H; exact H
              clear H
              have H := H1
              clear H1
              simp only [Option.some.injEq, Prod.mk.injEq] at H
              obtain ⟨rfl, rfl, rfl⟩ := H
              go_wp2
              repeat (go_quiet (fail); try go_wp2)
              go_ret
              exact ⟨by first | rfl | (simp [errW_none, errW_some] <;> rfl) | (simp [*, errW_none, errW_some] <;> rfl), by first | exact ai | exact HI0.out, by first | exact ai | (with_reducible exact HB.out), by first | exact ai | exact HK.out⟩
    ·rw [if_neg c3] at H
     exact absurd H (by simp)
   ·rw [if_neg c2] at H
    have c2b0 : decide (x1001_1 < (s0_0.size : Int)) = false := decide_eq_false c2
    clear c2
    by_cases c27 : x3_1 > 0
    ·rw [if_pos c27] at H
     have c27b0 : decide (0 < x3_1) = true := decide_eq_true c27
     clear c27
     simp only [Option.some.injEq, Prod.mk.injEq] at H
     obtain ⟨rfl, rfl, rfl⟩ := H
     obtain ⟨HGz28, hgz28⟩ := HI0.out
     have hcz28_0 := cellS44_0 HGz28
     have hcz28_1 := cellS44_1 HGz28
     have hfz28_0 := blk_frozen HGz28 0
     have hfz28_1 := blk_frozen HGz28 1
     clear HGz28 hgz28
     go_wp2
     repeat (go_quiet (fail); try go_wp2)
     go_ret
     exact ⟨by first | rfl | (simp [errW_none, errW_some] <;> rfl) | (simp [*, errW_none, errW_some] <;> rfl), by repeat (first | (with_reducible first | exact HI0.out | apply IsS44.alloc | apply IsS44.drewN | apply IsS44.drew | apply IsS44.set_0 | apply IsS44.set_1) | exact HI0.out), by first | exact ai | (with_reducible exact HB.out), by first | exact ai | exact HK.out⟩
    ·rw [if_neg c27] at H
     have c27b0 : decide (0 < x3_1) = false := decide_eq_false c27
     clear c27
     simp only [Option.some.injEq, Prod.mk.injEq] at H
     obtain ⟨rfl, rfl, rfl⟩ := H
     obtain ⟨HGz29, hgz29⟩ := HI0.out
     have hcz29_0 := cellS44_0 HGz29
     have hcz29_1 := cellS44_1 HGz29
     have hfz29_0 := blk_frozen HGz29 0
     have hfz29_1 := blk_frozen HGz29 1
     clear HGz29 hgz29
     go_wp2
     repeat (go_quiet (fail); try go_wp2)
     go_ret
     exact ⟨by first | rfl | (simp [errW_none, errW_some] <;> rfl) | (simp [*, errW_none, errW_some] <;> rfl), by first | exact ai | exact HI0.out, by first | exact ai | (with_reducible exact HB.out), by first | exact ai | exact HK.out⟩


end Go.Proofs.YtnihjlnnllngeaaDoor.PL
