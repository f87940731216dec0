/- The document: tokens that are words, whole. -/
import Derived.Test.YthjhonhhbddhkaaGreatDoorG8
namespace Go.Proofs.YthjhonhhbddhkaaGreatDoor
open Go.Ev Go.RowKit
noncomputable section
set_option maxRecDepth 100000
set_option linter.unusedVariables false
set_option linter.unusedSimpArgs false
variable {nx0 : Nat} {H0 : T OB}
theorem rdSlice_tail {H : T OB} {l : List UInt8} {lo : Nat} (h1 : lo ≤ l.length) : rdSlice P H 9 (some (txt l)) (some (some (i64 (lo : Int)))) (some none) (some none) = some (txt (l.drop lo)) := by
  show sliceV P 9 (txt l) (some (some (i64 (lo : Int)))) (some none) (some none) = _
  show fV P (Instr.sliceAt 9 (txt l) (some (i64 (lo : Int))) none none) = _
  have e0 : (⟨⟨l⟩⟩ : ByteArray).extract lo l.length = ⟨⟨l.drop lo⟩⟩ := by
    apply ByteArray.ext
    rw [ByteArray.data_extract]
    apply Array.ext'
    simp [List.take_of_length_le]
  have e1 : pureRun P (Instr.sliceAt 9 (txt l) (some (i64 (lo : Int))) none none) = some (txt (l.drop lo)) := by
    unfold Instr.sliceAt
    simp only [pureRun_bind, pureRun_und und_9, Option.bind_some]
    unfold Instr.slice
    simp only [pureRun_bind, pureRun_und und_9, Option.bind_some]
    unfold Instr.sliceBounds Instr.sliceBound
    simp only [pureRun_bind, asIntOf, Option.isSome]
    have pp : ∀ {α : Type} (a : α), pureRun P (pure a : Sem α) = some a := fun _ => rfl
    rw [if_neg (by decide)]
    simp only [pureRun_bind, pp, Option.bind_some]
    have c2 : (0 : Int) ≤ (lo : Int) ∧ (lo : Int) ≤ ((⟨⟨l⟩⟩ : ByteArray).size : Int) := ⟨by omega, by rw [txt_size]; omega⟩
    rw [if_pos c2]
    simp only [pp, Option.bind_some, Int.toNat_natCast, txt_size, e0]
  exact fV_run e1 rfl
/-- A call, its arguments in memory; what was there stays. -/
theorem Wq.callK {f : FuncId} {args : List Value} {H : T OB} {nx : Nat} {R R1 : Value → T OB → Nat → Prop} {k p : Value → T OB → Nat → Q} (hx : X0 f args = none) (h : WqR P pl X0 (evT P pl (.call f args false none H nx)) nx H R1) (hA : Ag nx0 H0 nx H)
    (hk : ∀ u H' nx', Ag nx0 H0 nx' H' → Ag nx H nx' H' → R1 u H' nx' → WqR P pl X0 (k u H' nx') nx0 H0 R) : WqR P pl X0 (callQ (.call f args false none H nx) k p) nx0 H0 R := by
  obtain ⟨u, H1, nx1, h1, hR1, h2⟩ := h
  obtain ⟨v, H2, nx2, h3, hR, h4⟩ := hk u H1 nx1 (hA.trans h1) h1 hR1
  refine ⟨v, H2, nx2, h3, hR, ?_⟩
  show optK (F P pl X0 (.call f args false none H nx)) (fun r => (match r.o with | .ret v => k v r.H r.nx | .pan v => p v r.H r.nx : Q).run (F P pl X0)) none = _
  have e1 : F P pl X0 (.call f args false none H nx) = some ⟨.ret u, false, H1, nx1⟩ := by
    rw [F_eq]
    show @Option.rec Value (fun _ => Option Rt) _ (fun v => some ⟨.ret v, false, H, nx⟩) (X0 f args) = _
    rw [hx]
    exact h2
  rw [e1]
  exact h4
theorem BS.keep {nx0 : Nat} {e : TypeId} {nx nx' : Nat} {H H' : T OB} {r : List UInt8} {sl : Value} (h : BS e nx0 H nx r sl) (hn : nx ≤ nx') (hk : ∀ b l e, b < nx → IsB H b l e → IsB H' b l e) : BS e nx0 H' nx' r sl := by
  rcases h with h | ⟨b, c, h1, h2, h3, h4, h5⟩
  · exact .inl h
  · exact .inr ⟨b, c, h1, by omega, hk _ _ _ h2 h3, h4, h5⟩
theorem sm_5 (n : Nat) : apSmall P 5 1 n = (Nat.ble n 1048576 && true) := by kernel_rfl
theorem sm_5' {n : Nat} (h : n ≤ 1048576) : apSmall P 5 1 n = true := by rw [sm_5, Nat.ble_eq_true_of_le h]; rfl
theorem fl_b (c : UInt8) : Instr.fill (fun i => some (i * 1, 1)) (zeroRow [Value.int .u8 0] (1 * 1)) [(0, b8 c)] = some ⟨bys [c]⟩ := by kernel_rfl
theorem isB_120 : isBytesT P 120 9 = true := by kernel_rfl
abbrev QuoR (s : List UInt8) : Value → T OB → Nat → Prop := fun v _ _ => ∃ u b, v = .tuple ⟨[txt u, .bool b]⟩ ∧ (b = true → first s 34 = true)
theorem w_111_13 (s : List UInt8) (hf : first s 34 = true) (h2 : 2 ≤ s.length) (hl : s.length ≤ 1000000) : ∀ (d i : Nat) (r : List UInt8) (sl : Value) (H : T OB) (nx : Nat), s.length - i ≤ d → 1 ≤ i → i ≤ s.length → r.length ≤ i → BS 5 nx0 H nx r sl → Ag nx0 H0 nx H →
    WqR P pl X0 (.jump (l111_13 (txt s) sl (i64 (i : Int)) H nx)) nx0 H0 (QuoR s) := by
  have hw : IntKind.i64.wrap ((s.length : Int) - 1) = ((s.length - 1 : Nat) : Int) := by rw [wrap_id (by omega)]; omega
  intro d
  induction d with
  | zero =>
    intro i r sl H nx hd hi hi2 hr hB hA
    refine Wq.jmp (q111_13 ..) (fun _ => rfl) ?_
    have e1 : decide ((i : Int) < ((s.length - 1 : Nat) : Int)) = false := by simp; omega
    have e2 : decide ((i : Int) = ((s.length - 1 : Nat) : Int)) = false := by simp; omega
    simp only [stpF, cond_true, cond_false, eq_self, List.length_nil, Int.reduceEq, Int.reduceLT, Int.reduceLE, rdLen_str _ und_9, txt_size, hw, e1, rdConv_BS und_120 und_5 und_9 isB_120 hB, e2]
    exact Wq.retR hA ⟨r, false, rfl, fun h => by cases h⟩
  | succ d ih =>
    intro i r sl H nx hd hi hi2 hr hB hA
    refine Wq.jmp (q111_13 ..) (fun _ => rfl) ?_
    by_cases hlt : i < s.length - 1
    · have e1 : decide ((i : Int) < ((s.length - 1 : Nat) : Int)) = true := by simp; omega
      simp only [stpF, cond_true, cond_false, eq_self, List.length_nil, Int.reduceEq, Int.reduceLT, Int.reduceLE, rdLen_str _ und_9, txt_size, hw, e1, rdSlice_tail hi2]
      refine Wq.callK rfl (w_155 (s.drop i) (by simp; omega) (by rw [List.length_drop]; exact Nat.lt_of_le_of_lt (Nat.sub_le _ _) (Nat.lt_of_le_of_lt hl (by decide))) H nx (.refl _ _)) hA fun u H1 nx1 hA1 hB1 hu => ?_
      obtain ⟨c, n, rfl, hn⟩ := hu
      have x0 : rdExtract (some (Value.tuple ⟨[b8 c, i64 (n : Int)]⟩)) 0 = some (b8 c) := rfl
      have x1 : rdExtract (some (Value.tuple ⟨[b8 c, i64 (n : Int)]⟩)) 1 = some (i64 (n : Int)) := rfl
      simp only [stpF, cond_true, cond_false, eq_self, List.length_nil, Int.reduceEq, Int.reduceLT, Int.reduceLE, x0, x1]
      refine Wq.ite (fun h => Wq.retR hA1 ⟨[], false, rfl, fun h => by cases h⟩) (fun h => ?_)
      rw [List.length_drop] at hn
      have hB' := BS.keep hB hB1.1 fun b l e hb h => h.ag hB1 hb
      have hn0 : n ≠ 0 := fun q => h (by rw [q]; rfl)
      refine Wq.addB (x := [c]) und_120 sz_5 zero_5 hB' rfl rfl (fl_b c) (fun m hm => sm_5' (by simp at hm; omega)) hA1 fun H2 sl2 nx2 hB2 hA2 _ => ?_
      have ew : IntKind.i64.wrap ((i : Int) + (n : Int)) = ((i + n : Nat) : Int) := by rw [wrap_id (by omega)]; omega
      simp only [stpF, cond_true, cond_false, eq_self, List.length_nil, Int.reduceEq, Int.reduceLT, Int.reduceLE, ew]
      exact ih (i + n) (r ++ [c]) sl2 H2 nx2 (by omega) (by omega) (by omega) (by simp; omega) hB2 hA2
    · have e1 : decide ((i : Int) < ((s.length - 1 : Nat) : Int)) = false := by simp; omega
      simp only [stpF, cond_true, cond_false, eq_self, List.length_nil, Int.reduceEq, Int.reduceLT, Int.reduceLE, rdLen_str _ und_9, txt_size, hw, e1, rdConv_BS und_120 und_5 und_9 isB_120 hB]
      refine Wq.ite (fun h => ?_) (fun h => Wq.retR hA ⟨r, false, rfl, fun h => by cases h⟩)
      have hi3 : i < s.length := by omega
      simp only [stpF, cond_true, cond_false, eq_self, List.length_nil, Int.reduceEq, Int.reduceLT, Int.reduceLE, rdIndex_txt und_9 (List.getElem?_eq_getElem hi3)]
      exact Wq.retR hA ⟨r, _, rfl, fun _ => hf⟩
theorem w_111 (s : List UInt8) (hl : s.length ≤ 1000000) (H : T OB) (nx : Nat) (hA : Ag nx0 H0 nx H) : WqR P pl X0 (evT P pl (.call 111 [txt s] false none H nx)) nx0 H0 (QuoR s) := by
  rw [q111]
  have L6t : ∀ H1 nx1, Ag nx0 H0 nx1 H1 → WqR P pl X0 (.jump (l111_6 (txt s) true H1 nx1)) nx0 H0 (QuoR s) := by
    intro H1 nx1 hA1
    refine Wq.jmp (q111_6 ..) (fun _ => rfl) ?_
    exact Wq.retR hA1 ⟨[], false, rfl, fun h => by cases h⟩
  simp only [stpF, cond_true, cond_false, eq_self, List.length_nil, Int.reduceEq, Int.reduceLT, Int.reduceLE, rdLen_str _ und_9, txt_size]
  refine Wq.ite (fun h => L6t _ _ hA) (fun h => ?_)
  obtain ⟨a, r, rfl⟩ : ∃ a r, s = a :: r := by cases s with
    | nil => simp at h
    | cons a r => exact ⟨a, r, rfl⟩
  simp only [stpF, cond_true, cond_false, eq_self, List.length_nil, Int.reduceEq, Int.reduceLT, Int.reduceLE, ix0]
  by_cases h34 : a.toNat = 34
  · have e : decide ((a.toNat : Int) = 34) = true := by simp; omega
    simp only [stpF, cond_true, cond_false, eq_self, List.length_nil, Int.reduceEq, Int.reduceLT, Int.reduceLE, e]
    refine Wq.jmp (q111_6 ..) (fun _ => rfl) ?_
    exact w_111_13 _ (by simp [first, h34]) (by omega) hl _ 1 [] _ H nx (Nat.le_refl _) (by omega) (by omega) (by simp) (.nil _ _ _ _) hA
  · have e : decide ((a.toNat : Int) = 34) = false := by simp; omega
    simp only [stpF, cond_true, cond_false, eq_self, List.length_nil, Int.reduceEq, Int.reduceLT, Int.reduceLE, e]
    exact L6t _ _ hA
/-- The document's answer: is a text a word of a kind? -/
theorem isWord_first {s : List UInt8} (h : isWord s = true) : firstDig s = false ∧ first s 34 = false ∧ first s 39 = false := by
  cases s with
  | nil => cases h
  | cons a r =>
    have : (isLow a || isHigh a) = true := by
      have h' : ((isLow a || isHigh a) && r.all inW) = true := h
      rw [Bool.and_eq_true] at h'
      exact h'.1
    unfold isLow isHigh at this
    unfold firstDig first isDig
    simp only [Bool.or_eq_true, Bool.and_eq_true, decide_eq_true_eq, decide_eq_false_iff_not, Bool.and_eq_false_iff] at this ⊢
    omega
theorem isVar_first {s : List UInt8} (h : isVar s = true) : firstDig s = false ∧ first s 34 = false ∧ first s 39 = true := by
  match s with
  | [] => cases h
  | [_] => cases h
  | a :: b :: r =>
    have h' : (decide (a.toNat = 39) && (isLow b && r.all fun c => !decide (c.toNat = 39) && inW c)) = true := h
    rw [Bool.and_eq_true, decide_eq_true_eq] at h'
    unfold firstDig first isDig
    simp only [Bool.and_eq_true, decide_eq_true_eq, decide_eq_false_iff_not, Bool.and_eq_false_iff]
    omega
theorem kindW_ne (s : List UInt8) : kindW s = 3 ∨ kindW s = 4 ∨ kindW s = 6 := by
  unfold kindW
  split
  · exact .inr (.inl rfl)
  · split
    · exact .inr (.inr rfl)
    · exact .inl rfl
def wordOk (k : Int) (s : List UInt8) : Bool := tokOk ⟨k, s, 0, 0⟩
theorem wordOk_3 (s : List UInt8) : wordOk 3 s = (isWord s && decide (kindW s = 3)) := by simp [wordOk, tokOk]
theorem wordOk_4 (s : List UInt8) : wordOk 4 s = (isWord s && decide (kindW s = 4)) := by simp [wordOk, tokOk]
theorem wordOk_5 (s : List UInt8) : wordOk 5 s = isVar s := by simp [wordOk, tokOk]
/-- What a text's token is, as far as it is asked. -/
abbrev TokR (s : List UInt8) : Value → T OB → Nat → Prop := fun v _ _ => ∃ (t : Tok) (b : Bool), v = .tuple ⟨[t.v, .bool b]⟩ ∧ t.n = t.n ∧ ∀ k, (k = 3 ∨ k = 4 ∨ k = 5) → (b && (decide (t.k = k) && (decide (t.s = s) && decide (t.n = 0)))) = wordOk k s
theorem bd_31_n (n : Int) : rdBuild P 31 (some [(0, i64 1), (2, i64 n)]) = some (Tok.v ⟨1, [], n, 0⟩) := rdBuild_of zero_31 (by kernel_rfl)
theorem bd_31_t (k : Int) (s : List UInt8) : rdBuild P 31 (some [(0, i64 k), (1, txt s)]) = some (Tok.v ⟨k, s, 0, 0⟩) := rdBuild_of zero_31 (by kernel_rfl)
theorem w_63 (s : List UInt8) (hl : s.length ≤ 1000000) (H : T OB) (nx : Nat) (hA : Ag nx0 H0 nx H) : WqR P pl X0 (evT P pl (.call 63 [txt s] false none H nx)) nx0 H0 (TokR s) := by
  have hb : s.length < big := Nat.lt_of_le_of_lt hl (by decide)
  have W : isWord s = false → isVar s = false → ∀ k, (k = 3 ∨ k = 4 ∨ k = 5) → wordOk k s = false := by
    intro h1 h2 k hk
    rcases hk with rfl | rfl | rfl
    · rw [wordOk_3, h1]; rfl
    · rw [wordOk_4, h1]; rfl
    · rw [wordOk_5, h2]
  rw [q63]
  refine Wq.alloc zero_31 hA fun H1 hb1 _ hA1 => ?_
  have E : ∀ (t : Tok) (b : Bool) H2 nx2, IsB H2 nx [i64 0, txt [], i64 0, i64 0] 31 → Ag nx0 H0 nx2 H2 → (∀ k, (k = 3 ∨ k = 4 ∨ k = 5) → (b && (decide (t.k = k) && (decide (t.s = s) && decide (t.n = 0)))) = wordOk k s) →
      WqR P pl X0 (effQ (efStore P H2 nx2 31 (some (.pointer (some ⟨nx, 0, none⟩))) (some t.v)) fun _ H nx' => optK (rdLoad P H 31 (some (.pointer (some ⟨nx, 0, none⟩)))) (fun x => .ret ⟨.ret (.tuple ⟨[x, .bool b]⟩), false, H, nx'⟩) .bad) nx0 H0 (TokR s) := by
    intro t b H2 nx2 hb2 hA2 h
    refine Wq.store hb2 sz_31 (by simp) rfl rfl hA2 hA.1 fun H3 hb3 _ hA3 => ?_
    have hb3' : IsB H3 nx t.c 31 := hb3
    rw [rdLoad_agg hb3' agg_31 sz_31 (by simp)]
    exact Wq.retR hA3 ⟨t, b, rfl, rfl, h⟩
  refine Wq.callK rfl (w_110 s hb H1 _ (.refl _ _)) hA1 fun u H2 nx2 hA2 k2 hu => ?_
  obtain ⟨n, b, rfl, hnb⟩ := hu
  replace hb1 := IsB.ag hb1 k2 (by omega)
  have x0 : rdExtract (some (Value.tuple ⟨[i64 n, .bool b]⟩)) 0 = some (i64 n) := rfl
  have x1 : rdExtract (some (Value.tuple ⟨[i64 n, .bool b]⟩)) 1 = some (.bool b) := rfl
  simp only [stpF, cond_true, cond_false, eq_self, List.length_nil, Int.reduceEq, Int.reduceLT, Int.reduceLE, x0, x1]
  cases b with
  | true =>
    simp only [stpF, cond_true, cond_false, eq_self, List.length_nil, Int.reduceEq, Int.reduceLT, Int.reduceLE, bd_31_n]
    have hd : firstDig s = true := by
      rcases hnb rfl with h | h
      · cases h
      · exact h
    refine E ⟨1, [], n, 0⟩ true _ _ hb1 hA2 fun k hk => ?_
    rw [W (by cases hw : isWord s with | false => rfl | true => rw [(isWord_first hw).1] at hd; cases hd) (by cases hw : isVar s with | false => rfl | true => rw [(isVar_first hw).1] at hd; cases hd) k hk]
    rw [show decide (1 = k) = false by simp; omega]
    simp
  | false =>
  simp only [stpF, cond_true, cond_false, eq_self, List.length_nil, Int.reduceEq, Int.reduceLT, Int.reduceLE]
  refine Wq.callK rfl (w_111 s hl H2 _ (.refl _ _)) hA2 fun u H3 nx3 hA3 k3 hu => ?_
  obtain ⟨u, b, rfl, hub⟩ := hu
  replace hb1 := IsB.ag hb1 k3 (by have := k2.1; omega)
  have x0 : rdExtract (some (Value.tuple ⟨[txt u, .bool b]⟩)) 0 = some (txt u) := rfl
  have x1 : rdExtract (some (Value.tuple ⟨[txt u, .bool b]⟩)) 1 = some (.bool b) := rfl
  simp only [stpF, cond_true, cond_false, eq_self, List.length_nil, Int.reduceEq, Int.reduceLT, Int.reduceLE, x0, x1]
  cases b with
  | true =>
    simp only [stpF, cond_true, cond_false, eq_self, List.length_nil, Int.reduceEq, Int.reduceLT, Int.reduceLE, bd_31_t]
    have hd : first s 34 = true := hub rfl
    refine E ⟨2, u, 0, 0⟩ true _ _ hb1 hA3 fun k hk => ?_
    rw [W (by cases hw : isWord s with | false => rfl | true => rw [(isWord_first hw).2.1] at hd; cases hd) (by cases hw : isVar s with | false => rfl | true => rw [(isVar_first hw).2.1] at hd; cases hd) k hk]
    rw [show decide (2 = k) = false by simp; omega]
    simp
  | false =>
  simp only [stpF, cond_true, cond_false, eq_self, List.length_nil, Int.reduceEq, Int.reduceLT, Int.reduceLE]
  refine Wq.callB (pu_112 s hb) hA3 fun H4 nx4 hA4 n4 k4 => ?_
  replace hb1 := k4 _ _ _ (by have := k2.1; have := k3.1; omega) hb1
  simp only [stpF, cond_true, cond_false, eq_self, List.length_nil, Int.reduceEq, Int.reduceLT, Int.reduceLE]
  cases hw : isWord s with
  | true =>
    simp only [stpF, cond_true, cond_false, eq_self, List.length_nil, Int.reduceEq, Int.reduceLT, Int.reduceLE]
    have hf := isWord_first hw
    have hv : isVar s = false := by cases h : isVar s with
      | false => rfl
      | true => have := (isVar_first h).2.2; rw [hf.2.2] at this; cases this
    obtain ⟨a, r, rfl⟩ : ∃ a r, s = a :: r := by cases s with
      | nil => cases hw
      | cons a r => exact ⟨a, r, rfl⟩
    refine Wq.callB (pu_113 a r) hA4 fun H5 nx5 hA5 n5 k5 => ?_
    replace hb1 := k5 _ _ _ (by have := k2.1; have := k3.1; omega) hb1
    simp only [stpF, cond_true, cond_false, eq_self, List.length_nil, Int.reduceEq, Int.reduceLT, Int.reduceLE, bd_31_t]
    refine E ⟨kindW (a :: r), a :: r, 0, 0⟩ true _ _ hb1 hA5 fun k hk => ?_
    rcases hk with rfl | rfl | rfl
    · rw [wordOk_3, hw]; simp
    · rw [wordOk_4, hw]; simp
    · rw [wordOk_5, hv]
      have : decide (kindW (a :: r) = 5) = false := by have := kindW_ne (a :: r); simp; omega
      simp [this]
  | false =>
  simp only [stpF, cond_true, cond_false, eq_self, List.length_nil, Int.reduceEq, Int.reduceLT, Int.reduceLE]
  refine Wq.callB (pu_114 s hb) hA4 fun H5 nx5 hA5 n5 k5 => ?_
  replace hb1 := k5 _ _ _ (by have := k2.1; have := k3.1; omega) hb1
  simp only [stpF, cond_true, cond_false, eq_self, List.length_nil, Int.reduceEq, Int.reduceLT, Int.reduceLE]
  cases hv : isVar s with
  | true =>
    simp only [stpF, cond_true, cond_false, eq_self, List.length_nil, Int.reduceEq, Int.reduceLT, Int.reduceLE, bd_31_t]
    refine E ⟨5, s, 0, 0⟩ true _ _ hb1 hA5 fun k hk => ?_
    rcases hk with rfl | rfl | rfl
    · rw [wordOk_3, hw]; simp
    · rw [wordOk_4, hw]; simp
    · rw [wordOk_5, hv]; simp
  | false =>
  simp only [stpF, cond_true, cond_false, eq_self, List.length_nil, Int.reduceEq, Int.reduceLT, Int.reduceLE]
  refine Wq.callB pu_116 hA5 fun H6 nx6 hA6 n6 k6 => ?_
  replace hb1 := k6 _ _ _ (by have := k2.1; have := k3.1; omega) hb1
  refine Wq.callB (pu_115 signsL (by decide) s) hA6 fun H7 nx7 hA7 n7 k7 => ?_
  replace hb1 := k7 _ _ _ (by have := k2.1; have := k3.1; omega) hb1
  simp only [stpF, cond_true, cond_false, eq_self, List.length_nil, Int.reduceEq, Int.reduceLT, Int.reduceLE]
  cases signsL.contains s with
  | true =>
    simp only [stpF, cond_true, cond_false, eq_self, List.length_nil, Int.reduceEq, Int.reduceLT, Int.reduceLE, bd_31_t]
    refine E ⟨7, s, 0, 0⟩ true _ _ hb1 hA7 fun k hk => ?_
    rw [W hw hv k hk, show decide (7 = k) = false by simp; omega]
    simp
  | false =>
    simp only [stpF, cond_true, cond_false, eq_self, List.length_nil, Int.reduceEq, Int.reduceLT, Int.reduceLE]
    refine E ⟨0, [], 0, 0⟩ false _ _ hb1 hA7 fun k hk => ?_
    rw [W hw hv k hk]
    simp
theorem pu_64 (k : Int) (s : List UInt8) (hk : k = 3 ∨ k = 4 ∨ k = 5) : P0 64 [Tok.v ⟨k, s, 0, 0⟩] (txt s) := Pure.of rfl fun H nx => by
  rw [q64]
  refine Wq.natF' (.refl _ _) fun hA => ?_
  simp only [stpF, cond_true, cond_false, eq_self, List.length_nil, Int.reduceEq, Int.reduceLT, Int.reduceLE, show decide (k = 0) = false by simp; omega, show decide (k = 1) = false by simp; omega, show decide (k = 2) = false by simp; omega]
  exact Wq.ret hA
theorem pu_36 (k : Int) (s : List UInt8) (hl : s.length ≤ 1000000) (hk : k = 3 ∨ k = 4 ∨ k = 5) : P0 36 [Tok.v ⟨k, s, 0, 0⟩] (.bool (wordOk k s)) := Pure.of rfl fun H nx => by
  rw [q36]
  refine Wq.natF' (.refl _ _) fun hA => ?_
  simp only [stpF, cond_true, cond_false, eq_self, List.length_nil, Int.reduceEq, Int.reduceLT, Int.reduceLE, show decide (k = 0) = false by simp; omega, show decide (k = 1) = false by simp; omega]
  refine Wq.jmp (q36_10 ..) (fun _ => rfl) ?_
  simp only [stpF, cond_true, cond_false, eq_self, List.length_nil, Int.reduceEq, Int.reduceLT, Int.reduceLE]
  refine Wq.call (pu_64 k s hk) hA fun H1 nx1 hA1 => ?_
  refine Wq.callR rfl (w_63 s hl H1 nx1 hA1) fun u H2 nx2 hA2 hu => ?_
  obtain ⟨t, b, rfl, _, h⟩ := hu
  have x0 : rdExtract (some (Value.tuple ⟨[t.v, .bool b]⟩)) 0 = some t.v := rfl
  have x1 : rdExtract (some (Value.tuple ⟨[t.v, .bool b]⟩)) 1 = some (.bool b) := rfl
  simp only [stpF, cond_true, cond_false, eq_self, List.length_nil, Int.reduceEq, Int.reduceLT, Int.reduceLE, x0, x1]
  refine Wq.var zero_31 sz_31 rfl rfl rfl hA2 fun H3 nx3 hA3 => ?_
  rw [← h k hk]
  cases b with
  | false => exact Wq.ret hA3
  | true =>
    simp only [stpF, cond_true, cond_false, eq_self, List.length_nil, Int.reduceEq, Int.reduceLT, Int.reduceLE, txt_dec]
    rw [Bool.true_and]
    refine Wq.bK (fun h1 => ?_) (fun h1 => ?_)
    · rw [h1, Bool.true_and]
      refine Wq.bK (fun h2 => ?_) (fun h2 => ?_)
      · rw [h2, Bool.true_and]; exact Wq.ret hA3
      · rw [h2, Bool.false_and]; exact Wq.ret hA3
    · rw [h1, Bool.false_and]; exact Wq.ret hA3
theorem pu_88 (k : Int) (s : List UInt8) (hl : s.length ≤ 1000000) (hk : k = 3 ∨ k = 4 ∨ k = 5) : P0 88 [i64 k, txt s] (.bool (wordOk k s)) := Pure.of rfl fun H nx => by
  rw [q88]
  simp only [stpF, cond_true, cond_false, eq_self, List.length_nil, Int.reduceEq, Int.reduceLT, Int.reduceLE, bd_31_t]
  refine Wq.call (pu_36 k s hl hk) (.refl _ _) fun H1 nx1 hA1 => ?_
  simp only [stpF, cond_true, cond_false, eq_self, List.length_nil, Int.reduceEq, Int.reduceLT, Int.reduceLE]
  exact Wq.ret hA1
end
end Go.Proofs.YthjhonhhbddhkaaGreatDoor
/- How many parts trees have; which are right, as the document says. -/
namespace Go.Proofs.YthjhonhhbddhkaaGreatDoor
open Go.Ev Go.RowKit
noncomputable section
set_option maxRecDepth 100000
set_option linter.unusedVariables false
set_option linter.unusedSimpArgs false
variable {nx0 : Nat} {H0 : T OB}
/-! parts -/
mutual
def Pat.z : Pat → Nat
  | .mk _ _ s l => 1 + s.length / 8 + patsZ l
def patsZ : List Pat → Nat
  | [] => 0
  | p :: l => p.z + patsZ l
end
mutual
def TyS.z : TyS → Nat
  | .mk _ s l => 1 + s.length / 8 + tysZ l
def tysZ : List TyS → Nat
  | [] => 0
  | p :: l => p.z + tysZ l
end
def Con.z (c : Con) : Nat := 1 + c.s.length / 8 + tysZ c.arg
def strsZ : List (List UInt8) → Nat
  | [] => 0
  | s :: l => 1 + s.length / 8 + strsZ l
def consZ : List Con → Nat
  | [] => 0
  | c :: l => c.z + consZ l
def Data.z (x : Data) : Nat := strsZ x.vars + x.s.length / 8 + consZ x.cons
mutual
def Exp.z : Exp → Nat
  | .mk _ _ s l p d => 1 + s.length / 8 + expsZ l + patsZ p + decsZ d
def Dec.z : Dec → Nat
  | .mk _ p e f x c => 1 + p.z + e.z + fnsZ f + x.z + c.z
def Fn.z : Fn → Nat
  | .mk s p b => 1 + s.length / 8 + b.z + patsZ p
def expsZ : List Exp → Nat
  | [] => 0
  | e :: l => e.z + expsZ l
def decsZ : List Dec → Nat
  | [] => 0
  | e :: l => e.z + decsZ l
def fnsZ : List Fn → Nat
  | [] => 0
  | e :: l => e.z + fnsZ l
end
theorem Pat.z_eq (p : Pat) : p.z = 1 + p.s.length / 8 + patsZ p.l := by cases p; rw [Pat.z]; rfl
theorem TyS.z_eq (p : TyS) : p.z = 1 + p.s.length / 8 + tysZ p.l := by cases p; rw [TyS.z]; rfl
theorem Exp.z_eq (e : Exp) : e.z = 1 + e.s.length / 8 + expsZ e.l + patsZ e.p + decsZ e.d := by cases e; rw [Exp.z]; rfl
theorem Dec.z_eq (d : Dec) : d.z = 1 + d.p.z + d.e.z + fnsZ d.f + d.x.z + d.c.z := by cases d; rw [Dec.z]; rfl
theorem Fn.z_eq (f : Fn) : f.z = 1 + f.s.length / 8 + f.b.z + patsZ f.p := by cases f; rw [Fn.z]; rfl
theorem patsZ_mem {l : List Pat} {c : Pat} (h : c ∈ l) : c.z ≤ patsZ l := by
  induction l with
  | nil => cases h
  | cons a l ih =>
    rw [patsZ]
    rcases List.mem_cons.1 h with rfl | h
    · omega
    · have := ih h; omega
theorem patsZ_len (l : List Pat) : l.length ≤ patsZ l := by
  induction l with
  | nil => simp
  | cons a l ih =>
    rw [patsZ, List.length_cons]
    have : 1 ≤ a.z := by rw [Pat.z_eq]; omega
    omega
theorem tysZ_mem {l : List TyS} {c : TyS} (h : c ∈ l) : c.z ≤ tysZ l := by
  induction l with
  | nil => cases h
  | cons a l ih =>
    rw [tysZ]
    rcases List.mem_cons.1 h with rfl | h
    · omega
    · have := ih h; omega
theorem tysZ_len (l : List TyS) : l.length ≤ tysZ l := by
  induction l with
  | nil => simp
  | cons a l ih =>
    rw [tysZ, List.length_cons]
    have : 1 ≤ a.z := by rw [TyS.z_eq]; omega
    omega
theorem expsZ_mem {l : List Exp} {c : Exp} (h : c ∈ l) : c.z ≤ expsZ l := by
  induction l with
  | nil => cases h
  | cons a l ih =>
    rw [expsZ]
    rcases List.mem_cons.1 h with rfl | h
    · omega
    · have := ih h; omega
theorem decsZ_mem {l : List Dec} {c : Dec} (h : c ∈ l) : c.z ≤ decsZ l := by
  induction l with
  | nil => cases h
  | cons a l ih =>
    rw [decsZ]
    rcases List.mem_cons.1 h with rfl | h
    · omega
    · have := ih h; omega
theorem fnsZ_mem {l : List Fn} {c : Fn} (h : c ∈ l) : c.z ≤ fnsZ l := by
  induction l with
  | nil => cases h
  | cons a l ih =>
    rw [fnsZ]
    rcases List.mem_cons.1 h with rfl | h
    · omega
    · have := ih h; omega
theorem consZ_mem {l : List Con} {c : Con} (h : c ∈ l) : c.z ≤ consZ l := by
  induction l with
  | nil => cases h
  | cons a l ih =>
    rw [consZ]
    rcases List.mem_cons.1 h with rfl | h
    · omega
    · have := ih h; omega
theorem strsZ_mem {l : List (List UInt8)} {c : List UInt8} (h : c ∈ l) : c.length / 8 ≤ strsZ l := by
  induction l with
  | nil => cases h
  | cons a l ih =>
    rw [strsZ]
    rcases List.mem_cons.1 h with rfl | h
    · omega
    · have := ih h; omega
/-! right -/
def patHd (k n : Int) (s : List UInt8) (l : List Pat) : Bool :=
  (decide (k = 3) || decide (n = 0)) && (
  if k = 1 then decide (s = []) && decide (l.length = 0)
  else if k = 2 then wordOk 3 s && decide (l.length = 0)
  else if k = 3 then decide (s = []) && (decide (l.length = 0) && (decide (-4611686018427387903 ≤ n) && decide (n ≤ 4611686018427387903)))
  else if k = 4 then decide (l.length = 0)
  else if k = 5 then decide (s = []) && !decide (l.length = 1)
  else if k = 6 then if s = [58, 58] then (match l with | [q] => decide (q.k = 5) && decide (q.l.length = 2) | _ => false) else wordOk 4 s && decide (l.length ≤ 1)
  else false)
mutual
def patR : Pat → Bool
  | .mk k n s l => patsRt l && patHd k n s l
def patsRt : List Pat → Bool
  | [] => true
  | p :: l => patR p && patsRt l
end
theorem patR_eq (p : Pat) : patR p = (patsRt p.l && patHd p.k p.n p.s p.l) := by cases p; rw [patR]; rfl
def tyHd (k : Int) (s : List UInt8) (n : Nat) : Bool :=
  if k = 1 then decide (n = 0) && wordOk 5 s
  else if k = 2 then decide (s = [114, 101, 102]) || wordOk 3 s
  else if k = 3 then decide (n = 2) && decide (s = [])
  else if k = 4 then decide (2 ≤ n) && decide (s = []) else false
mutual
def tyR : TyS → Bool
  | .mk k s l => tysRt l && tyHd k s l.length
def tysRt : List TyS → Bool
  | [] => true
  | p :: l => tyR p && tysRt l
end
theorem tyR_eq (p : TyS) : tyR p = (tysRt p.l && tyHd p.k p.s p.l.length) := by cases p; rw [tyR]; rfl
def conR (c : Con) : Bool := wordOk 4 c.s && (decide (c.arg.length ≤ 1) && tysRt c.arg)
def consRt : List Con → Bool
  | [] => true
  | c :: l => conR c && consRt l
def varsRt : List (List UInt8) → Bool
  | [] => true
  | s :: l => wordOk 5 s && varsRt l
/-- An expression with what its kind names alone. -/
def bareE (e : Exp) : Exp := .mk e.k (if e.k = 1 then e.n else 0) (if e.k = 2 ∨ e.k = 3 ∨ e.k = 4 ∨ e.k = 14 ∨ e.k = 15 then e.s else []) (if e.k = 1 ∨ e.k = 2 ∨ e.k = 3 ∨ e.k = 4 then [] else e.l) (if e.k = 7 ∨ e.k = 9 ∨ e.k = 12 then e.p else []) (if e.k = 10 then e.d else [])
abbrev pat0 : Pat := .mk 0 0 [] []
abbrev exp0 : Exp := .mk 0 0 [] [] [] []
abbrev data0 : Data := ⟨[], [], []⟩
abbrev con0 : Con := ⟨[], []⟩
def bareD (d : Dec) : Dec := .mk d.k (if d.k = 1 then d.p else pat0) (if d.k = 1 ∨ d.k = 5 then d.e else exp0) (if d.k = 2 then d.f else []) (if d.k = 3 then d.x else data0) (if d.k = 4 then d.c else con0)
def expHd (k n : Int) (s : List UInt8) (len np : Nat) (ds : List Dec) : Bool :=
  if k = 1 then decide (0 ≤ n) && decide (n ≤ 4611686018427387903)
  else if k = 2 then true
  else if k = 3 then wordOk 3 s
  else if k = 4 then wordOk 4 s
  else if k = 5 then !decide (len = 1)
  else if k = 13 then decide (1 < len)
  else if k = 6 then decide (len = 2)
  else if k = 7 then decide (0 < len) && decide (np = len)
  else if k = 8 then decide (len = 3)
  else if k = 9 ∨ k = 12 then decide (1 < len) && decide (np + 1 = len)
  else if k = 11 then decide (len = 1)
  else if k = 14 then decide (len = 2) && binsL.contains s
  else if k = 15 then decide (len = 1) && wordsL.contains s
  else if k = 10 then (ds.all fun d => decide (d.k = 1) || decide (d.k = 2)) && decide (len = 1)
  else false
mutual
def expR : Exp → Bool
  | .mk k n s l p d => expsRt l && (eqb (bareE (.mk k n s l p d)) (.mk k n s l p d) && (patsRt p && (decsRt d && expHd k n s l.length p.length d)))
def decR : Dec → Bool
  | .mk k p e f x c => if k = 1 then eqb (bareD (.mk k p e f x c)) (.mk k p e f x c) && (patR p && expR e)
    else if k = 5 then eqb (bareD (.mk k p e f x c)) (.mk k p e f x c) && expR e
    else if k = 2 then fnsRt f && (decide (0 < f.length) && eqb (bareD (.mk k p e f x c)) (.mk k p e f x c))
    else if k = 3 then varsRt x.vars && (consRt x.cons && (wordOk 3 x.s && (decide (0 < x.cons.length) && eqb (bareD (.mk k p e f x c)) (.mk k p e f x c))))
    else if k = 4 then conR c && eqb (bareD (.mk k p e f x c)) (.mk k p e f x c)
    else false
def fnR : Fn → Bool
  | .mk s p b => wordOk 3 s && (decide (0 < p.length) && (patsRt p && expR b))
def expsRt : List Exp → Bool
  | [] => true
  | e :: l => expR e && expsRt l
def decsRt : List Dec → Bool
  | [] => true
  | e :: l => decR e && decsRt l
def fnsRt : List Fn → Bool
  | [] => true
  | e :: l => fnR e && fnsRt l
end
theorem expR_eq (e : Exp) : expR e = (expsRt e.l && (eqb (bareE e) e && (patsRt e.p && (decsRt e.d && expHd e.k e.n e.s e.l.length e.p.length e.d)))) := by cases e; rw [expR]; rfl
theorem fnR_eq (e : Fn) : fnR e = (wordOk 3 e.s && (decide (0 < e.p.length) && (patsRt e.p && expR e.b))) := by cases e; rw [fnR]; rfl
theorem decR_eq (d : Dec) : decR d = (if d.k = 1 then eqb (bareD d) d && (patR d.p && expR d.e)
    else if d.k = 5 then eqb (bareD d) d && expR d.e
    else if d.k = 2 then fnsRt d.f && (decide (0 < d.f.length) && eqb (bareD d) d)
    else if d.k = 3 then varsRt d.x.vars && (consRt d.x.cons && (wordOk 3 d.x.s && (decide (0 < d.x.cons.length) && eqb (bareD d) d)))
    else if d.k = 4 then conR d.c && eqb (bareD d) d else false) := by cases d; rw [decR]; rfl
end
end Go.Proofs.YthjhonhhbddhkaaGreatDoor
/- The document: which patterns, types and constructors are right. -/
namespace Go.Proofs.YthjhonhhbddhkaaGreatDoor
open Go.Ev Go.RowKit
noncomputable section
set_option maxRecDepth 100000
set_option linter.unusedVariables false
set_option linter.unusedSimpArgs false
variable {nx0 : Nat} {H0 : T OB}
theorem pu_89 (l : List Pat) (hl : l.length < big) (ih : ∀ a, a ∈ l → P0 86 [a.v] (.bool (patR a))) : P0 89 [patsR l] (.bool (patsRt l)) := Pure.of rfl fun H nx => by
  rw [q89]
  refine Wq.each (l) (fun i (_ : Unit) H nx => .jump (l89_7 (patsR l) (i64 (i : Int)) H nx)) (fun t (_ : Unit) => .bool (patsRt t)) (fun s0 H0 nx0 hA0 => ?_) (fun i0 a0 t0 s0 H0 nx0 hg0 hlt0 hd0 hA0 ih0 => ?_) (()) _ _ (.refl _ _)
  · refine Wq.jmp (q89_7 ..) (fun _ => rfl) ?_
    simp only [stpF, cond_true, cond_false, eq_self, List.length_nil, Int.reduceEq, Int.reduceLT, Int.reduceLE, sttF, List.length_map, not_lt_len]
    exact Wq.ret hA0
  · have hx0 : ((l).map Pat.v)[i0]? = some (Pat.v a0) := by simp [hg0]
    have hm0 := List.mem_of_getElem? hg0
    refine Wq.jmp (q89_7 ..) (fun _ => rfl) ?_
    simp only [stpF, cond_true, cond_false, eq_self, List.length_nil, Int.reduceEq, Int.reduceLT, Int.reduceLE, sttF, List.length_map, is_lt_len hlt0, ix_42 hx0]
    refine Wq.call (ih a0 hm0) hA0 fun H2 nx2 hA2 => ?_
    rw [patsRt]
    cases patR a0 with
    | false => simp only [stpF, cond_true, cond_false, eq_self, List.length_nil, Int.reduceEq, Int.reduceLT, Int.reduceLE, Bool.false_and]; exact Wq.ret hA2
    | true =>
      simp only [stpF, cond_true, cond_false, eq_self, List.length_nil, Int.reduceEq, Int.reduceLT, Int.reduceLE, Bool.true_and, wrap_succ (show i0 < 9223372036854775807 by have := sm_lt hl; omega)]
      exact ih0 () _ _ hA2
theorem nat_eq0 (n : Nat) : decide ((n : Int) = 0) = decide (n = 0) := by rw [decide_eq_decide]; omega
theorem nat_eq (n : Nat) (m : Nat) : decide ((n : Int) = (m : Int)) = decide (n = m) := by rw [decide_eq_decide]; omega
theorem nat_eq1 (n : Nat) : decide ((n : Int) = 1) = decide (n = 1) := nat_eq n 1
theorem nat_eq2 (n : Nat) : decide ((n : Int) = 2) = decide (n = 2) := nat_eq n 2
theorem nat_eq3 (n : Nat) : decide ((n : Int) = 3) = decide (n = 3) := nat_eq n 3
theorem nat_le1 (n : Nat) : decide ((n : Int) ≤ 1) = decide (n ≤ 1) := by rw [decide_eq_decide]; omega
theorem nat_ge2 (n : Nat) : decide (2 ≤ (n : Int)) = decide (2 ≤ n) := by rw [decide_eq_decide]; omega
theorem nat_gt1 (n : Nat) : decide (1 < (n : Int)) = decide (1 < n) := by rw [decide_eq_decide]; omega
theorem nat_gt0 (n : Nat) : decide (0 < (n : Int)) = decide (0 < n) := by rw [decide_eq_decide]; omega
theorem pu_86a (p : Pat) (hs : p.s.length ≤ 1000000) (ih : P0 89 [patsR p.l] (.bool (patsRt p.l))) : P0 86 [p.v] (.bool (patR p)) := Pure.of rfl fun H nx => by
  rw [q86, patR_eq]
  refine Wq.natF' (.refl _ _) fun hA => ?_
  simp only [stpF, cond_true, cond_false, eq_self, List.length_nil, Int.reduceEq, Int.reduceLT, Int.reduceLE, sttF, List.length_map]
  refine Wq.call ih hA fun H1 nx1 hA1 => ?_
  have Lt : ∀ H1 nx1, Ag nx H nx1 H1 → Wq P pl X0 (.jump (l86_6 (eptrV p.v) true H1 nx1)) nx H (.bool false) := by
    intro H1 nx1 hA1
    refine Wq.jmp (q86_6 ..) (fun _ => rfl) ?_
    exact Wq.ret hA1
  cases h0 : patsRt p.l with
  | false => simp only [stpF, cond_true, cond_false, eq_self, List.length_nil, Int.reduceEq, Int.reduceLT, Int.reduceLE]; exact Lt _ _ hA1
  | true =>
  rw [Bool.true_and]
  unfold patHd
  have Lf : (decide (p.k = 3) || decide (p.n = 0)) = true → Wq P pl X0 (.jump (l86_6 (eptrV p.v) false H1 nx1)) nx H (.bool ((decide (p.k = 3) || decide (p.n = 0)) && (
      if p.k = 1 then decide (p.s = []) && decide (p.l.length = 0)
      else if p.k = 2 then wordOk 3 p.s && decide (p.l.length = 0)
      else if p.k = 3 then decide (p.s = []) && (decide (p.l.length = 0) && (decide (-4611686018427387903 ≤ p.n) && decide (p.n ≤ 4611686018427387903)))
      else if p.k = 4 then decide (p.l.length = 0)
      else if p.k = 5 then decide (p.s = []) && !decide (p.l.length = 1)
      else if p.k = 6 then if p.s = [58, 58] then (match p.l with | [q] => decide (q.k = 5) && decide (q.l.length = 2) | _ => false) else wordOk 4 p.s && decide (p.l.length ≤ 1)
      else false))) := by
    intro h
    rw [h, Bool.true_and]
    refine Wq.jmp (q86_6 ..) (fun _ => rfl) ?_
    simp only [stpF, cond_true, cond_false, eq_self, List.length_nil, Int.reduceEq, Int.reduceLT, Int.reduceLE, sttF, List.length_map, txt_dec, nat_eq0, nat_eq1, nat_le1]
    refine Wq.ite (fun g => ?_) (fun g1 => ?_)
    · rw [if_pos g]
      refine Wq.bK (fun h => ?_) (fun h => ?_)
      · rw [h, Bool.true_and]; exact Wq.ret hA1
      · rw [h, Bool.false_and]; exact Wq.ret hA1
    rw [if_neg g1]
    refine Wq.ite (fun g => ?_) (fun g2 => ?_)
    · rw [if_pos g]
      refine Wq.call (pu_88 3 _ hs (by simp)) hA1 fun H2 nx2 hA2 => ?_
      simp only [stpF, cond_true, cond_false, eq_self, List.length_nil, Int.reduceEq, Int.reduceLT, Int.reduceLE]
      refine Wq.bK (fun h => ?_) (fun h => ?_)
      · rw [h, Bool.true_and]; exact Wq.ret hA2
      · rw [h, Bool.false_and]; exact Wq.ret hA2
    rw [if_neg g2]
    refine Wq.ite (fun g => ?_) (fun g3 => ?_)
    · rw [if_pos g]
      refine Wq.bK (fun h => ?_) (fun h => ?_)
      · rw [h, Bool.true_and]
        refine Wq.bK (fun h => ?_) (fun h => ?_)
        · rw [h, Bool.true_and]
          refine Wq.bK (fun h => ?_) (fun h => ?_)
          · rw [h, Bool.true_and]; exact Wq.ret hA1
          · rw [h, Bool.false_and]; exact Wq.ret hA1
        · rw [h, Bool.false_and]; exact Wq.ret hA1
      · rw [h, Bool.false_and]; exact Wq.ret hA1
    rw [if_neg g3]
    refine Wq.ite (fun g => ?_) (fun g4 => ?_)
    · rw [if_pos g]; exact Wq.ret hA1
    rw [if_neg g4]
    refine Wq.ite (fun g => ?_) (fun g5 => ?_)
    · rw [if_pos g]
      refine Wq.bK (fun h => ?_) (fun h => ?_)
      · rw [h, Bool.true_and]; exact Wq.ret hA1
      · rw [h, Bool.false_and]; exact Wq.ret hA1
    rw [if_neg g5]
    refine Wq.ite (fun g => ?_) (fun g6 => ?_)
    · rw [if_pos g]
      refine Wq.ite (fun g7 => ?_) (fun g7 => ?_)
      · rw [if_pos g7]
        match hl : p.l with
        | [] => simp only [stpF, cond_true, cond_false, eq_self, List.length_nil, Int.reduceEq, Int.reduceLT, Int.reduceLE]; exact Wq.ret hA1
        | [q] =>
          have hx : (p.l.map Pat.v)[0]? = some q.v := by rw [hl]; rfl
          have hx' := ix_42 hx .i64
          rw [show ((0 : Nat) : Int) = 0 from rfl] at hx'
          rw [hl] at hx'
          simp only [stpF, cond_true, cond_false, eq_self, List.length_nil, Int.reduceEq, Int.reduceLT, Int.reduceLE, sttF, List.length_map, List.length_cons, List.length_nil, hx', nat_eq2]
          refine Wq.bK (fun h => ?_) (fun h => ?_)
          · rw [h, Bool.true_and]; exact Wq.ret hA1
          · rw [h, Bool.false_and]; exact Wq.ret hA1
        | q :: q' :: r =>
          simp only [stpF, cond_true, cond_false, eq_self, List.length_nil, Int.reduceEq, Int.reduceLT, Int.reduceLE, show decide ((q :: q' :: r).length = 1) = false by simp]
          exact Wq.ret hA1
      · rw [if_neg g7]
        refine Wq.call (pu_88 4 _ hs (by simp)) hA1 fun H2 nx2 hA2 => ?_
        simp only [stpF, cond_true, cond_false, eq_self, List.length_nil, Int.reduceEq, Int.reduceLT, Int.reduceLE]
        refine Wq.bK (fun h => ?_) (fun h => ?_)
        · rw [h, Bool.true_and]; exact Wq.ret hA2
        · rw [h, Bool.false_and]; exact Wq.ret hA2
    · rw [if_neg g6]; exact Wq.ret hA1
  simp only [stpF, cond_true, cond_false, eq_self, List.length_nil, Int.reduceEq, Int.reduceLT, Int.reduceLE]
  refine Wq.nite (fun h3 => ?_) (fun h3 => Lf (by simp [h3]))
  by_cases hn : p.n = 0
  · have e : decide (p.n = 0) = true := by simp [hn]
    rw [e] at Lf ⊢
    simp only [stpF, cond_true, cond_false, eq_self, List.length_nil, Int.reduceEq, Int.reduceLT, Int.reduceLE]
    exact Lf (by simp)
  · have e : decide (p.n = 0) = false := by simp [hn]
    have e3 : decide (p.k = 3) = false := by simp [h3]
    rw [e, e3]
    simp only [stpF, cond_true, cond_false, eq_self, List.length_nil, Int.reduceEq, Int.reduceLT, Int.reduceLE]
    exact Lt _ _ hA1
theorem pu_86 (p : Pat) (hp : p.ok) (hz : p.z ≤ 500) : P0 86 [p.v] (.bool (patR p)) := by
  refine Pat.ind (p := fun p => p.ok → p.z ≤ 500 → P0 86 [p.v] (.bool (patR p))) (fun p ih hp hz => ?_) p hp hz
  rw [Pat.ok_iff] at hp
  rw [Pat.z_eq] at hz
  exact pu_86a p (by omega) (pu_89 p.l hp.2.2.1 fun a ha => ih a ha (hp.2.2.2 a ha) (by have := patsZ_mem ha; omega))
theorem pu_89' (l : List Pat) (hl : l.length < big) (h : ∀ a, a ∈ l → a.ok) (hz : patsZ l ≤ 500) : P0 89 [patsR l] (.bool (patsRt l)) := pu_89 l hl fun a ha => pu_86 a (h a ha) (by have := patsZ_mem ha; omega)
theorem pu_143a (p : TyS) (hs : p.s.length ≤ 1000000) (hl : p.l.length < big) (ih : ∀ a, a ∈ p.l → P0 143 [a.v] (.bool (tyR a))) : P0 143 [p.v] (.bool (tyR p)) := Pure.of rfl fun H nx => by
  rw [q143, tyR_eq]
  refine Wq.natF' (.refl _ _) fun hA => ?_
  refine Wq.each (p.l) (fun i (_ : Unit) H nx => .jump (l143_7 (eptrV p.v) (i64 (i : Int)) H nx)) (fun t (_ : Unit) => .bool (tysRt t && tyHd p.k p.s p.l.length)) (fun s0 H0 nx0 hA0 => ?_) (fun i0 a0 t0 s0 H0 nx0 hg0 hlt0 hd0 hA0 ih0 => ?_) (()) _ _ hA
  · refine Wq.jmp (q143_7 ..) (fun _ => rfl) ?_
    simp only [stpF, cond_true, cond_false, eq_self, List.length_nil, Int.reduceEq, Int.reduceLT, Int.reduceLE, sttF, List.length_map, not_lt_len]
    rw [tysRt, Bool.true_and]
    unfold tyHd
    simp only [stpF, cond_true, cond_false, eq_self, List.length_nil, Int.reduceEq, Int.reduceLT, Int.reduceLE, nat_eq0, nat_eq2, nat_ge2, txt_dec]
    refine Wq.ite (fun g => ?_) (fun g1 => ?_)
    · rw [if_pos g]
      refine Wq.bK (fun h => ?_) (fun h => ?_)
      · rw [h, Bool.true_and]
        refine Wq.call (pu_88 5 _ hs (by simp)) hA0 fun H2 nx2 hA2 => ?_
        simp only [stpF, cond_true, cond_false, eq_self, List.length_nil, Int.reduceEq, Int.reduceLT, Int.reduceLE]
        exact Wq.ret hA2
      · rw [h, Bool.false_and]; exact Wq.ret hA0
    rw [if_neg g1]
    refine Wq.ite (fun g => ?_) (fun g2 => ?_)
    · rw [if_pos g]
      refine Wq.bK (fun h => ?_) (fun h => ?_)
      · rw [h, Bool.true_or]; exact Wq.ret hA0
      · rw [h, Bool.false_or]
        refine Wq.call (pu_88 3 _ hs (by simp)) hA0 fun H2 nx2 hA2 => ?_
        simp only [stpF, cond_true, cond_false, eq_self, List.length_nil, Int.reduceEq, Int.reduceLT, Int.reduceLE]
        exact Wq.ret hA2
    rw [if_neg g2]
    refine Wq.ite (fun g => ?_) (fun g3 => ?_)
    · rw [if_pos g]
      refine Wq.bK (fun h => ?_) (fun h => ?_)
      · rw [h, Bool.true_and]; exact Wq.ret hA0
      · rw [h, Bool.false_and]; exact Wq.ret hA0
    rw [if_neg g3]
    refine Wq.ite (fun g => ?_) (fun g4 => ?_)
    · rw [if_pos g]
      refine Wq.bK (fun h => ?_) (fun h => ?_)
      · rw [h, Bool.true_and]; exact Wq.ret hA0
      · rw [h, Bool.false_and]; exact Wq.ret hA0
    · rw [if_neg g4]; exact Wq.ret hA0
  · have hx0 : ((p.l).map TyS.v)[i0]? = some (TyS.v a0) := by simp [hg0]
    have hm0 := List.mem_of_getElem? hg0
    refine Wq.jmp (q143_7 ..) (fun _ => rfl) ?_
    simp only [stpF, cond_true, cond_false, eq_self, List.length_nil, Int.reduceEq, Int.reduceLT, Int.reduceLE, sttF, List.length_map, is_lt_len hlt0, ix_53 hx0]
    refine Wq.call (ih a0 hm0) hA0 fun H2 nx2 hA2 => ?_
    rw [tysRt]
    cases tyR a0 with
    | false => simp only [stpF, cond_true, cond_false, eq_self, List.length_nil, Int.reduceEq, Int.reduceLT, Int.reduceLE, Bool.false_and]; exact Wq.ret hA2
    | true =>
      simp only [stpF, cond_true, cond_false, eq_self, List.length_nil, Int.reduceEq, Int.reduceLT, Int.reduceLE, Bool.true_and, wrap_succ (show i0 < 9223372036854775807 by have := sm_lt hl; omega)]
      exact ih0 () _ _ hA2
theorem pu_143 (p : TyS) (hp : p.ok) (hz : p.z ≤ 500) : P0 143 [p.v] (.bool (tyR p)) := by
  refine TyS.ind (p := fun p => p.ok → p.z ≤ 500 → P0 143 [p.v] (.bool (tyR p))) (fun p ih hp hz => ?_) p hp hz
  rw [TyS.ok_iff] at hp
  rw [TyS.z_eq] at hz
  exact pu_143a p (by omega) hp.2.1 fun a ha => ih a ha (hp.2.2 a ha) (by have := tysZ_mem ha; omega)
theorem pu_90 (c : Con) (hc : c.ok) (hz : c.z ≤ 500) : P0 90 [c.v] (.bool (conR c)) := Pure.of rfl fun H nx => by
  unfold Con.z at hz
  have hs : c.s.length ≤ 1000000 := by omega
  rw [q90]
  unfold conR
  refine Wq.natF' (.refl _ _) fun hA => ?_
  simp only [stpF, cond_true, cond_false, eq_self, List.length_nil, Int.reduceEq, Int.reduceLT, Int.reduceLE, sttF, List.length_map, nat_le1, nat_eq0]
  refine Wq.call (pu_88 4 _ hs (by simp)) hA fun H2 nx2 hA2 => ?_
  simp only [stpF, cond_true, cond_false, eq_self, List.length_nil, Int.reduceEq, Int.reduceLT, Int.reduceLE]
  refine Wq.bK (fun h => ?_) (fun h => ?_)
  · rw [h, Bool.true_and]
    match hl : c.arg with
    | [] => simp only [stpF, cond_true, cond_false, eq_self, List.length_nil, Int.reduceEq, Int.reduceLT, Int.reduceLE]; exact Wq.ret hA2
    | [t] =>
      have hx : (c.arg.map TyS.v)[0]? = some t.v := by rw [hl]; rfl
      have hx' := ix_53 hx .i64
      rw [show ((0 : Nat) : Int) = 0 from rfl] at hx'
      rw [hl] at hx'
      simp only [stpF, cond_true, cond_false, eq_self, List.length_nil, Int.reduceEq, Int.reduceLT, Int.reduceLE, sttF, List.length_map, show decide ([t].length ≤ 1) = true by simp, show decide ([t].length = 0) = false by simp, hx']
      refine Wq.call (pu_143 t (hc.2.2 t (by rw [hl]; simp)) (by rw [hl] at hz; simp only [tysZ] at hz; omega)) hA2 fun H3 nx3 hA3 => ?_
      simp only [stpF, cond_true, cond_false, eq_self, List.length_nil, Int.reduceEq, Int.reduceLT, Int.reduceLE]
      refine Wq.retE ?_ hA3
      rw [tysRt, tysRt, Bool.and_true, Bool.true_and]
    | t :: t' :: r =>
      simp only [stpF, cond_true, cond_false, eq_self, List.length_nil, Int.reduceEq, Int.reduceLT, Int.reduceLE, show decide ((t :: t' :: r).length ≤ 1) = false by simp]
      exact Wq.ret hA2
  · rw [h, Bool.false_and]; exact Wq.ret hA2
end
end Go.Proofs.YthjhonhhbddhkaaGreatDoor
/- The document: an expression with what its kind names alone. -/
namespace Go.Proofs.YthjhonhhbddhkaaGreatDoor
open Go.Ev Go.RowKit
noncomputable section
set_option maxRecDepth 100000
set_option linter.unusedVariables false
set_option linter.unusedSimpArgs false
variable {nx0 : Nat} {H0 : T OB}
theorem bd_44 (k : Int) (l : List Value) : rdBuild P 44 (some [(0, i64 k), (3, rowV 6 l)]) = some (.agg ⟨[i64 k, i64 0, txt [], rowV 6 l, .slice none 0 0, .slice none 0 0]⟩) := rdBuild_of zero_44 (by kernel_rfl)
abbrev nilS : Value := .slice none 0 0
theorem w_141 (e : Exp) (H : T OB) (nx : Nat) (hA : Ag nx0 H0 nx H) : WqR P pl X0 (evT P pl (.call 141 [e.v] false none H nx)) nx0 H0 (fun v _ _ => VExp (bareE e) v) := by
  rw [q141]
  refine Wq.natF' hA fun hA => ?_
  refine Wq.alloc zero_44 hA fun H1 hb0 _ hA1 => ?_
  simp only [stpF, cond_true, cond_false, eq_self, List.length_nil, Int.reduceEq, Int.reduceLT, Int.reduceLE, sttF, List.length_map, bd_44]
  refine Wq.alloc zero_44 hA1 fun H2 hb6 k2 hA2 => ?_
  replace hb0 := k2 _ _ _ (by omega) hb0
  refine Wq.store hb6 sz_44 (by simp) rfl rfl hA2 (by have := hA.1; omega) fun H3 hb6 k3 hA3 => ?_
  replace hb0 := k3 _ _ _ (by omega) hb0
  replace hb6 : IsB H3 (nx + 1 + 1) [i64 e.k, i64 0, txt [], expsR e.l, nilS, nilS] 44 := hb6
  clear k2 k3 hA1 hA2
  have hn0 : nx0 ≤ nx + 1 := hA.1
  have E : ∀ (a b c d f g : Value) H' nx', IsB H' (nx + 1 + 1) [a, b, c, d, f, g] 44 → IsB H' (nx + 1) [i64 0, i64 0, txt [], nilS, nilS, nilS] 44 → oneCell a = true → oneCell b = true → oneCell c = true → oneCell d = true → oneCell f = true → oneCell g = true → Ag nx0 H0 nx' H' → VExp (bareE e) (.agg ⟨[a, b, c, d, f, g]⟩) →
      WqR P pl X0 (optK (rdLoad P H' 44 (some (.pointer (some ⟨nx + 1 + 1, 0, none⟩)))) (fun x => effQ (efStore P H' nx' 44 (some (.pointer (some ⟨nx + 1, 0, none⟩))) (some x)) (fun _ H nx'' => optK (rdLoad P H 44 (some (.pointer (some ⟨nx + 1, 0, none⟩)))) (fun x => .ret ⟨.ret x, false, H, nx''⟩) .bad)) .bad) nx0 H0 (fun v _ _ => VExp (bareE e) v) := by
    intro a b c d f g H' nx' h6 h0 oa ob oc od of og hA' hV
    rw [rdLoad_agg h6 agg_44 sz_44 (by simp)]
    refine Wq.store h0 sz_44 (by simp) rfl (by simp [Value.cells, oa, ob, oc, od, of, og]) hA' hn0 fun H4 hb _ hA4 => ?_
    have hb' : IsB H4 (nx + 1) [a, b, c, d, f, g] 44 := hb
    rw [rdLoad_agg hb' agg_44 sz_44 (by simp)]
    exact Wq.retR hA4 hV
  refine Wq.ite (fun g1 => ?_) (fun g1 => ?_)
  · simp only [stpF, cond_true, cond_false, eq_self, List.length_nil, Int.reduceEq, Int.reduceLT, Int.reduceLE, fp_44_1]
    refine Wq.put hb6 sz_2 rfl rfl (by simp) rfl hA3 (by omega) fun H4 hb6 k4 hA4 => ?_
    replace hb0 := k4 _ _ _ (by omega) hb0
    refine Wq.put hb6 sz_41 rfl rfl (by simp) rfl hA4 (by omega) fun H5 hb6 k5 hA5 => ?_
    replace hb0 := k5 _ _ _ (by omega) hb0
    refine Wq.jmp (q141_42 ..) (fun _ => rfl) ?_
    refine E _ _ _ _ _ _ _ _ hb6 hb0 rfl rfl rfl rfl rfl rfl hA5 ?_
    unfold bareE
    simp only [g1]
    exact ⟨_, _, _, rfl, IsR.nil 6, IsR.nil 4, IsR.nil 17⟩
  have L36 : ∀ (b : Bool), b = (decide (e.k = 7) || (decide (e.k = 9) || decide (e.k = 12))) → e.k ≠ 2 → e.k ≠ 3 → e.k ≠ 4 → e.k ≠ 14 → e.k ≠ 15 → WqR P pl X0 (.jump (l141_36 (eptrV e.v) (.pointer (some ⟨nx + 1, 0, none⟩)) (.pointer (some ⟨nx + 1 + 1, 0, none⟩)) (i64 e.k) b H3 (nx + 1 + 1 + 1))) nx0 H0 (fun v _ _ => VExp (bareE e) v) := by
    intro b hb h2 h3 h4 h14 h15
    refine Wq.jmp (q141_36 ..) (fun _ => rfl) ?_
    cases b with
    | true =>
      simp only [stpF, cond_true, cond_false, eq_self, List.length_nil, Int.reduceEq, Int.reduceLT, Int.reduceLE, sttF, List.length_map, fp_44_4]
      refine Wq.put hb6 sz_42 rfl rfl (by simp) rfl hA3 (by omega) fun H4 hb6 k4 hA4 => ?_
      replace hb0 := k4 _ _ _ (by omega) hb0
      refine E _ _ _ _ _ _ _ _ hb6 hb0 rfl rfl rfl rfl rfl rfl hA4 ?_
      have hk : e.k = 7 ∨ e.k = 9 ∨ e.k = 12 := by
        simp only [Bool.true_eq, Bool.or_eq_true, decide_eq_true_eq] at hb
        exact hb
      refine ⟨_, _, _, ?_, (show IsR 6 ((bareE e).l.map Exp.v) (expsR e.l) from ?_), (show IsR 4 ((bareE e).p.map Pat.v) (patsR e.p) from ?_), (show IsR 17 ((bareE e).d.map Dec.v) nilS from ?_)⟩
      · show _ = Value.agg ⟨[i64 e.k, i64 (if e.k = 1 then e.n else 0), txt (if e.k = 2 ∨ e.k = 3 ∨ e.k = 4 ∨ e.k = 14 ∨ e.k = 15 then e.s else []), _, _, _]⟩
        rw [if_neg g1, if_neg (by omega)]
      · show IsR 6 ((if e.k = 1 ∨ e.k = 2 ∨ e.k = 3 ∨ e.k = 4 then [] else e.l).map Exp.v) _
        rw [if_neg (by omega)]; exact .row _ _
      · show IsR 4 ((if e.k = 7 ∨ e.k = 9 ∨ e.k = 12 then e.p else []).map Pat.v) _
        rw [if_pos hk]; exact .row _ _
      · show IsR 17 ((if e.k = 10 then e.d else []).map Dec.v) _
        rw [if_neg (by omega)]; exact .nil _
    | false =>
      have hk : ¬(e.k = 7 ∨ e.k = 9 ∨ e.k = 12) := by
        simp only [Bool.false_eq, Bool.or_eq_false_iff, decide_eq_false_iff_not] at hb
        omega
      simp only [stpF, cond_true, cond_false, eq_self, List.length_nil, Int.reduceEq, Int.reduceLT, Int.reduceLE, sttF, List.length_map, fp_44_5]
      refine Wq.ite (fun g10 => ?_) (fun g10 => ?_)
      · refine Wq.put hb6 sz_24 rfl rfl (by simp) rfl hA3 (by omega) fun H4 hb6 k4 hA4 => ?_
        replace hb0 := k4 _ _ _ (by omega) hb0
        refine E _ _ _ _ _ _ _ _ hb6 hb0 rfl rfl rfl rfl rfl rfl hA4 ?_
        refine ⟨_, _, _, ?_, (show IsR 6 ((bareE e).l.map Exp.v) (expsR e.l) from ?_), (show IsR 4 ((bareE e).p.map Pat.v) nilS from ?_), (show IsR 17 ((bareE e).d.map Dec.v) (decsR e.d) from ?_)⟩
        · show _ = Value.agg ⟨[i64 e.k, i64 (if e.k = 1 then e.n else 0), txt (if e.k = 2 ∨ e.k = 3 ∨ e.k = 4 ∨ e.k = 14 ∨ e.k = 15 then e.s else []), _, _, _]⟩
          rw [if_neg g1, if_neg (by omega)]
        · show IsR 6 ((if e.k = 1 ∨ e.k = 2 ∨ e.k = 3 ∨ e.k = 4 then [] else e.l).map Exp.v) _
          rw [if_neg (by omega)]; exact .row _ _
        · show IsR 4 ((if e.k = 7 ∨ e.k = 9 ∨ e.k = 12 then e.p else []).map Pat.v) _
          rw [if_neg hk]; exact .nil _
        · show IsR 17 ((if e.k = 10 then e.d else []).map Dec.v) _
          rw [if_pos g10]; exact .row _ _
      · refine E _ _ _ _ _ _ _ _ hb6 hb0 rfl rfl rfl rfl rfl rfl hA3 ?_
        refine ⟨_, _, _, ?_, (show IsR 6 ((bareE e).l.map Exp.v) (expsR e.l) from ?_), (show IsR 4 ((bareE e).p.map Pat.v) nilS from ?_), (show IsR 17 ((bareE e).d.map Dec.v) nilS from ?_)⟩
        · show _ = Value.agg ⟨[i64 e.k, i64 (if e.k = 1 then e.n else 0), txt (if e.k = 2 ∨ e.k = 3 ∨ e.k = 4 ∨ e.k = 14 ∨ e.k = 15 then e.s else []), _, _, _]⟩
          rw [if_neg g1, if_neg (by omega)]
        · show IsR 6 ((if e.k = 1 ∨ e.k = 2 ∨ e.k = 3 ∨ e.k = 4 then [] else e.l).map Exp.v) _
          rw [if_neg (by omega)]; exact .row _ _
        · show IsR 4 ((if e.k = 7 ∨ e.k = 9 ∨ e.k = 12 then e.p else []).map Pat.v) _
          rw [if_neg hk]; exact .nil _
        · show IsR 17 ((if e.k = 10 then e.d else []).map Dec.v) _
          rw [if_neg (by omega)]; exact .nil _
  have L28 : ∀ (b : Bool), b = (decide (e.k = 14) || decide (e.k = 15)) → e.k ≠ 2 → e.k ≠ 3 → e.k ≠ 4 → WqR P pl X0 (.jump (l141_28 (eptrV e.v) (.pointer (some ⟨nx + 1, 0, none⟩)) (.pointer (some ⟨nx + 1 + 1, 0, none⟩)) (i64 e.k) b H3 (nx + 1 + 1 + 1))) nx0 H0 (fun v _ _ => VExp (bareE e) v) := by
    intro b hb h2 h3 h4
    refine Wq.jmp (q141_28 ..) (fun _ => rfl) ?_
    cases b with
    | true =>
      have hk : e.k = 14 ∨ e.k = 15 := by
        simp only [Bool.true_eq, Bool.or_eq_true, decide_eq_true_eq] at hb
        exact hb
      simp only [stpF, cond_true, cond_false, eq_self, List.length_nil, Int.reduceEq, Int.reduceLT, Int.reduceLE, sttF, List.length_map, fp_44_2]
      refine Wq.put hb6 sz_9 rfl rfl (by simp) rfl hA3 (by omega) fun H4 hb6 k4 hA4 => ?_
      replace hb0 := k4 _ _ _ (by omega) hb0
      refine E _ _ _ _ _ _ _ _ hb6 hb0 rfl rfl rfl rfl rfl rfl hA4 ?_
      refine ⟨_, _, _, ?_, (show IsR 6 ((bareE e).l.map Exp.v) (expsR e.l) from ?_), (show IsR 4 ((bareE e).p.map Pat.v) nilS from ?_), (show IsR 17 ((bareE e).d.map Dec.v) nilS from ?_)⟩
      · show _ = Value.agg ⟨[i64 e.k, i64 (if e.k = 1 then e.n else 0), txt (if e.k = 2 ∨ e.k = 3 ∨ e.k = 4 ∨ e.k = 14 ∨ e.k = 15 then e.s else []), _, _, _]⟩
        rw [if_neg g1, if_pos (by omega)]
      · show IsR 6 ((if e.k = 1 ∨ e.k = 2 ∨ e.k = 3 ∨ e.k = 4 then [] else e.l).map Exp.v) _
        rw [if_neg (by omega)]; exact .row _ _
      · show IsR 4 ((if e.k = 7 ∨ e.k = 9 ∨ e.k = 12 then e.p else []).map Pat.v) _
        rw [if_neg (by omega)]; exact .nil _
      · show IsR 17 ((if e.k = 10 then e.d else []).map Dec.v) _
        rw [if_neg (by omega)]; exact .nil _
    | false =>
      have hk : e.k ≠ 14 ∧ e.k ≠ 15 := by
        simp only [Bool.false_eq, Bool.or_eq_false_iff, decide_eq_false_iff_not] at hb
        exact hb
      simp only [stpF, cond_true, cond_false, eq_self, List.length_nil, Int.reduceEq, Int.reduceLT, Int.reduceLE]
      refine Wq.ite (fun g => L36 _ (by simp [g]) h2 h3 h4 hk.1 hk.2) (fun g7 => ?_)
      refine Wq.ite (fun g => L36 _ (by simp [g]) h2 h3 h4 hk.1 hk.2) (fun g9 => ?_)
      exact L36 _ (by simp [g7, g9]) h2 h3 h4 hk.1 hk.2
  have L20 : ∀ (b : Bool), b = (decide (e.k = 2) || (decide (e.k = 3) || decide (e.k = 4))) → WqR P pl X0 (.jump (l141_20 (eptrV e.v) (.pointer (some ⟨nx + 1, 0, none⟩)) (.pointer (some ⟨nx + 1 + 1, 0, none⟩)) (i64 e.k) b H3 (nx + 1 + 1 + 1))) nx0 H0 (fun v _ _ => VExp (bareE e) v) := by
    intro b hb
    refine Wq.jmp (q141_20 ..) (fun _ => rfl) ?_
    cases b with
    | true =>
      have hk : e.k = 2 ∨ e.k = 3 ∨ e.k = 4 := by
        simp only [Bool.true_eq, Bool.or_eq_true, decide_eq_true_eq] at hb
        exact hb
      simp only [stpF, cond_true, cond_false, eq_self, List.length_nil, Int.reduceEq, Int.reduceLT, Int.reduceLE, sttF, List.length_map, fp_44_2, fp_44_3]
      refine Wq.put hb6 sz_9 rfl rfl (by simp) rfl hA3 (by omega) fun H4 hb6 k4 hA4 => ?_
      replace hb0 := k4 _ _ _ (by omega) hb0
      refine Wq.put hb6 sz_41 rfl rfl (by simp) rfl hA4 (by omega) fun H5 hb6 k5 hA5 => ?_
      replace hb0 := k5 _ _ _ (by omega) hb0
      refine E _ _ _ _ _ _ _ _ hb6 hb0 rfl rfl rfl rfl rfl rfl hA5 ?_
      refine ⟨_, _, _, ?_, (show IsR 6 ((bareE e).l.map Exp.v) nilS from ?_), (show IsR 4 ((bareE e).p.map Pat.v) nilS from ?_), (show IsR 17 ((bareE e).d.map Dec.v) nilS from ?_)⟩
      · show _ = Value.agg ⟨[i64 e.k, i64 (if e.k = 1 then e.n else 0), txt (if e.k = 2 ∨ e.k = 3 ∨ e.k = 4 ∨ e.k = 14 ∨ e.k = 15 then e.s else []), _, _, _]⟩
        rw [if_neg g1, if_pos (by omega)]
      · show IsR 6 ((if e.k = 1 ∨ e.k = 2 ∨ e.k = 3 ∨ e.k = 4 then [] else e.l).map Exp.v) _
        rw [if_pos (by omega)]; exact .nil _
      · show IsR 4 ((if e.k = 7 ∨ e.k = 9 ∨ e.k = 12 then e.p else []).map Pat.v) _
        rw [if_neg (by omega)]; exact .nil _
      · show IsR 17 ((if e.k = 10 then e.d else []).map Dec.v) _
        rw [if_neg (by omega)]; exact .nil _
    | false =>
      have hk : e.k ≠ 2 ∧ e.k ≠ 3 ∧ e.k ≠ 4 := by
        simp only [Bool.false_eq, Bool.or_eq_false_iff, decide_eq_false_iff_not] at hb
        exact hb
      simp only [stpF, cond_true, cond_false, eq_self, List.length_nil, Int.reduceEq, Int.reduceLT, Int.reduceLE]
      refine Wq.ite (fun g => L28 _ (by simp [g]) hk.1 hk.2.1 hk.2.2) (fun g14 => ?_)
      exact L28 _ (by simp [g14]) hk.1 hk.2.1 hk.2.2
  refine Wq.ite (fun g => L20 _ (by simp [g])) (fun g2 => ?_)
  refine Wq.ite (fun g => L20 _ (by simp [g])) (fun g3 => ?_)
  exact L20 _ (by simp [g2, g3])
end
end Go.Proofs.YthjhonhhbddhkaaGreatDoor
/- The document: which expressions are right. -/
namespace Go.Proofs.YthjhonhhbddhkaaGreatDoor
open Go.Ev Go.RowKit
noncomputable section
set_option maxRecDepth 100000
set_option linter.unusedVariables false
set_option linter.unusedSimpArgs false
variable {nx0 : Nat} {H0 : T OB}
theorem w_115h (l : List (List UInt8)) (hl : l.length < big) (s : List UInt8) (b n : Nat) (hn : l.length = n) (H : T OB) (nx : Nat) (hb : IsB H b (l.map txt) 9) (hbn : nx0 ≤ b) (hA : Ag nx0 H0 nx H) : Wq P pl X0 (evT P pl (.call 115 [.slice (some ⟨b, 0, none⟩) n n, txt s] false none H nx)) nx0 H0 (.bool (l.contains s)) := by
  rw [q115]
  refine Wq.frT hb hn hA hbn fun H2 _ hA2 => ?_
  exact w_115 l hl s l 0 H2 _ rfl (Nat.zero_le _) hA2
theorem nat_gt (a : Nat) (b : Nat) : decide ((a : Int) < (b : Int)) = decide (a < b) := by rw [decide_eq_decide]; omega
theorem nat_sub1 (a b : Nat) (hb : b < big) (h : 1 < b) : decide ((a : Int) = IntKind.i64.wrap ((b : Int) - 1)) = decide (a + 1 = b) := by
  have : b < 1125899906842624 := hb
  rw [decide_eq_decide, wrap_id (by omega)]
  omega
theorem w_87_16 (e : Exp) (h : e.ok) (hs : e.s.length ≤ 1000000) (H : T OB) (nx : Nat) (hA : Ag nx0 H0 nx H) : Wq P pl X0 (.jump (l87_16 (eptrV e.v) false H nx)) nx0 H0 (.bool (expHd e.k e.n e.s e.l.length e.p.length e.d)) := by
  rw [Exp.ok_iff] at h
  obtain ⟨hr, hs', ⟨hl, hl'⟩, ⟨hp, hp'⟩, hd, hd'⟩ := h
  have L62 : ∀ (b : Bool), b = (decide (e.k = 9) || decide (e.k = 12)) → e.k ≠ 1 → e.k ≠ 2 → e.k ≠ 3 → e.k ≠ 4 → e.k ≠ 5 → e.k ≠ 13 → e.k ≠ 6 → e.k ≠ 7 → e.k ≠ 8 → Wq P pl X0 (.jump (l87_62 (eptrV e.v) (i64 (e.l.length : Int)) (i64 e.k) b H nx)) nx0 H0 (.bool (expHd e.k e.n e.s e.l.length e.p.length e.d)) := by
    intro b hb h1 h2 h3 h4 h5 h13 h6 h7 h8
    unfold expHd
    rw [if_neg h1, if_neg h2, if_neg h3, if_neg h4, if_neg h5, if_neg h13, if_neg h6, if_neg h7, if_neg h8]
    refine Wq.jmp (q87_62 ..) (fun _ => rfl) ?_
    cases b with
    | true =>
      have hk : e.k = 9 ∨ e.k = 12 := by
        simp only [Bool.true_eq, Bool.or_eq_true, decide_eq_true_eq] at hb
        exact hb
      rw [if_pos hk]
      simp only [stpF, cond_true, cond_false, eq_self, List.length_nil, Int.reduceEq, Int.reduceLT, Int.reduceLE, sttF, List.length_map, nat_gt1]
      refine Wq.ite (fun h => ?_) (fun h => ?_)
      · rw [nat_sub1 _ _ hl h, decide_eq_true h, Bool.true_and]
        exact Wq.ret hA
      · rw [decide_eq_false h, Bool.false_and]
        exact Wq.ret hA
    | false =>
      have hk : ¬(e.k = 9 ∨ e.k = 12) := by
        simp only [Bool.false_eq, Bool.or_eq_false_iff, decide_eq_false_iff_not] at hb
        omega
      rw [if_neg hk]
      simp only [stpF, cond_true, cond_false, eq_self, List.length_nil, Int.reduceEq, Int.reduceLT, Int.reduceLE, sttF, List.length_map, nat_eq1, nat_eq2]
      refine Wq.ite (fun g => ?_) (fun g11 => ?_)
      · rw [if_pos g]; exact Wq.ret hA
      rw [if_neg g11]
      refine Wq.ite (fun g => ?_) (fun g14 => ?_)
      · rw [if_pos g]
        refine Wq.bK (fun h => ?_) (fun h => ?_)
        · rw [h, Bool.true_and]
          refine Wq.row und_49 sz_9 zero_9' rfl fl_bins hA fun H1 hb1 _ hA1 => ?_
          refine Wq.callAt rfl (w_115h binsL (by decide) e.s nx 16 rfl H1 _ hb1 hA.1 hA1) fun H2 nx2 hA2 => ?_
          simp only [stpF, cond_true, cond_false, eq_self, List.length_nil, Int.reduceEq, Int.reduceLT, Int.reduceLE]
          exact Wq.ret hA2
        · rw [h, Bool.false_and]; exact Wq.ret hA
      rw [if_neg g14]
      refine Wq.ite (fun g => ?_) (fun g15 => ?_)
      · rw [if_pos g]
        refine Wq.bK (fun h => ?_) (fun h => ?_)
        · rw [h, Bool.true_and]
          refine Wq.call pu_142 hA fun H1 nx1 hA1 => ?_
          refine Wq.call (pu_115 wordsL (by decide) e.s) hA1 fun H2 nx2 hA2 => ?_
          simp only [stpF, cond_true, cond_false, eq_self, List.length_nil, Int.reduceEq, Int.reduceLT, Int.reduceLE]
          exact Wq.ret hA2
        · rw [h, Bool.false_and]; exact Wq.ret hA
      rw [if_neg g15]
      refine Wq.ite (fun g => ?_) (fun g10 => ?_)
      · rw [if_pos g]
        refine Wq.each (e.d) (fun i (_ : Unit) H nx => .jump (l87_81 (eptrV e.v) (i64 (e.l.length : Int)) (i64 (i : Int)) H nx)) (fun t (_ : Unit) => .bool ((t.all fun d => decide (d.k = 1) || decide (d.k = 2)) && decide (e.l.length = 1))) (fun s0 H0' nx0' hA0 => ?_) (fun i0 a0 t0 s0 H0' nx0' hg0 hlt0 hd0 hA0 ih0 => ?_) (()) _ _ hA
        · refine Wq.jmp (q87_81 ..) (fun _ => rfl) ?_
          simp only [stpF, cond_true, cond_false, eq_self, List.length_nil, Int.reduceEq, Int.reduceLT, Int.reduceLE, sttF, List.length_map, not_lt_len]
          simp only [stpF, cond_true, cond_false, eq_self, List.length_nil, Int.reduceEq, Int.reduceLT, Int.reduceLE, nat_eq1]
          exact Wq.ret hA0
        · have hx0 : ((e.d).map Dec.v)[i0]? = some (Dec.v a0) := by simp [hg0]
          have hm0 := List.mem_of_getElem? hg0
          refine Wq.jmp (q87_81 ..) (fun _ => rfl) ?_
          simp only [stpF, cond_true, cond_false, eq_self, List.length_nil, Int.reduceEq, Int.reduceLT, Int.reduceLE, sttF, List.length_map, is_lt_len hlt0, ix_24 hx0]
          have L86 : ∀ (b : Bool), b = !(decide (a0.k = 1) || decide (a0.k = 2)) → Wq P pl X0 (.jump (l87_86 (eptrV e.v) (i64 (e.l.length : Int)) (i64 (i0 : Int)) b H0' nx0')) nx0 H0 (.bool (((a0 :: t0).all fun d => decide (d.k = 1) || decide (d.k = 2)) && decide (e.l.length = 1))) := by
            intro b hb
            refine Wq.jmp (q87_86 ..) (fun _ => rfl) ?_
            rw [List.all_cons]
            cases hx : (decide (a0.k = 1) || decide (a0.k = 2)) with
            | false => rw [hx] at hb; rw [hb, Bool.false_and]; exact Wq.ret hA0
            | true =>
              rw [hx] at hb
              rw [hb, Bool.true_and]
              simp only [stpF, cond_true, cond_false, eq_self, List.length_nil, Int.reduceEq, Int.reduceLT, Int.reduceLE, wrap_succ (show i0 < 9223372036854775807 by have := sm_lt hd; omega)]
              exact ih0 () _ _ hA0
          refine Wq.nite (fun h => ?_) (fun h => L86 _ (by simp [h]))
          exact L86 _ (by simp [h])
      · rw [if_neg g10]; exact Wq.ret hA
  refine Wq.jmp (q87_16 ..) (fun _ => rfl) ?_
  simp only [stpF, cond_true, cond_false, eq_self, List.length_nil, Int.reduceEq, Int.reduceLT, Int.reduceLE, sttF, List.length_map, nat_eq1, nat_eq2, nat_eq3, nat_gt1, nat_gt0, nat_eq]
  unfold expHd at L62 ⊢
  refine Wq.ite (fun g => ?_) (fun g1 => ?_)
  · rw [if_pos g]
    refine Wq.bK (fun h => ?_) (fun h => ?_)
    · rw [h, Bool.true_and]; exact Wq.ret hA
    · rw [h, Bool.false_and]; exact Wq.ret hA
  rw [if_neg g1]
  rw [if_neg g1] at L62
  refine Wq.ite (fun g => ?_) (fun g2 => ?_)
  · rw [if_pos g]; exact Wq.ret hA
  rw [if_neg g2]
  rw [if_neg g2] at L62
  refine Wq.ite (fun g => ?_) (fun g3 => ?_)
  · rw [if_pos g]
    refine Wq.call (pu_88 3 _ hs (by simp)) hA fun H1 nx1 hA1 => ?_
    simp only [stpF, cond_true, cond_false, eq_self, List.length_nil, Int.reduceEq, Int.reduceLT, Int.reduceLE]
    exact Wq.ret hA1
  rw [if_neg g3]
  rw [if_neg g3] at L62
  refine Wq.ite (fun g => ?_) (fun g4 => ?_)
  · rw [if_pos g]
    refine Wq.call (pu_88 4 _ hs (by simp)) hA fun H1 nx1 hA1 => ?_
    simp only [stpF, cond_true, cond_false, eq_self, List.length_nil, Int.reduceEq, Int.reduceLT, Int.reduceLE]
    exact Wq.ret hA1
  rw [if_neg g4]
  rw [if_neg g4] at L62
  refine Wq.ite (fun g => ?_) (fun g5 => ?_)
  · rw [if_pos g]; exact Wq.ret hA
  rw [if_neg g5]
  rw [if_neg g5] at L62
  refine Wq.ite (fun g => ?_) (fun g13 => ?_)
  · rw [if_pos g]; exact Wq.ret hA
  rw [if_neg g13]
  rw [if_neg g13] at L62
  refine Wq.ite (fun g => ?_) (fun g6 => ?_)
  · rw [if_pos g]; exact Wq.ret hA
  rw [if_neg g6]
  rw [if_neg g6] at L62
  refine Wq.ite (fun g => ?_) (fun g7 => ?_)
  · rw [if_pos g]
    refine Wq.bK (fun h => ?_) (fun h => ?_)
    · rw [h, Bool.true_and]; exact Wq.ret hA
    · rw [h, Bool.false_and]; exact Wq.ret hA
  rw [if_neg g7]
  rw [if_neg g7] at L62
  refine Wq.ite (fun g => ?_) (fun g8 => ?_)
  · rw [if_pos g]; exact Wq.ret hA
  rw [if_neg g8]
  rw [if_neg g8] at L62
  refine Wq.ite (fun g => L62 _ (by simp [g]) g1 g2 g3 g4 g5 g13 g6 g7 g8) (fun g9 => ?_)
  exact L62 _ (by simp [g9]) g1 g2 g3 g4 g5 g13 g6 g7 g8
theorem bareE_ok {e : Exp} (h : e.ok) : (bareE e).ok := by
  rw [Exp.ok_iff] at h ⊢
  obtain ⟨hr, hs', ⟨hl, hl'⟩, ⟨hp, hp'⟩, hd, hd'⟩ := h
  have b0 : (0 : Nat) < big := by decide
  refine ⟨?_, ?_, ⟨?_, ?_⟩, ⟨?_, ?_⟩, ?_, ?_⟩
  · show rg (if e.k = 1 then e.n else 0)
    split
    · exact hr
    · unfold rg; omega
  · show sOk (if e.k = 2 ∨ e.k = 3 ∨ e.k = 4 ∨ e.k = 14 ∨ e.k = 15 then e.s else [])
    split
    · exact hs'
    · show ([] : List UInt8).length < _; simp
  · show (if e.k = 1 ∨ e.k = 2 ∨ e.k = 3 ∨ e.k = 4 then [] else e.l).length < big
    split
    · exact b0
    · exact hl
  · show ∀ c, c ∈ (if e.k = 1 ∨ e.k = 2 ∨ e.k = 3 ∨ e.k = 4 then [] else e.l) → c.ok
    split
    · intro c hc; cases hc
    · exact hl'
  · show (if e.k = 7 ∨ e.k = 9 ∨ e.k = 12 then e.p else []).length < big
    split
    · exact hp
    · exact b0
  · show ∀ c, c ∈ (if e.k = 7 ∨ e.k = 9 ∨ e.k = 12 then e.p else []) → c.ok
    split
    · exact hp'
    · intro c hc; cases hc
  · show (if e.k = 10 then e.d else []).length < big
    split
    · exact hd
    · exact b0
  · show ∀ c, c ∈ (if e.k = 10 then e.d else []) → c.ok
    split
    · exact hd'
    · intro c hc; cases hc
theorem pu_87a (e : Exp) (h : e.ok) (hz : e.z ≤ 500) (hE : ∀ c, c ∈ e.l → P0 87 [c.v] (.bool (expR c))) (hD : P0 21 [decsR e.d] (.bool (decsRt e.d))) : P0 87 [e.v] (.bool (expR e)) := Pure.of rfl fun H nx => by
  have h' := (Exp.ok_iff e).1 h
  obtain ⟨hr, hs', ⟨hl, hl'⟩, ⟨hp, hp'⟩, hd, hd'⟩ := h'
  have hz' := hz
  rw [Exp.z_eq] at hz'
  have hs : e.s.length ≤ 1000000 := by omega
  rw [q87, expR_eq]
  refine Wq.natF' (.refl _ _) fun hA => ?_
  have L16 : ∀ H1 nx1, Ag nx H nx1 H1 → Wq P pl X0 (.jump (l87_16 (eptrV e.v) true H1 nx1)) nx H (.bool false) := by
    intro H1 nx1 hA1
    refine Wq.jmp (q87_16 ..) (fun _ => rfl) ?_
    exact Wq.ret hA1
  refine Wq.each (e.l) (fun i (_ : Unit) H nx => .jump (l87_7 (eptrV e.v) (i64 (i : Int)) H nx)) (fun t (_ : Unit) => .bool (expsRt t && (eqb (bareE e) e && (patsRt e.p && (decsRt e.d && expHd e.k e.n e.s e.l.length e.p.length e.d))))) (fun s0 H0 nx0 hA0 => ?_) (fun i0 a0 t0 s0 H0 nx0 hg0 hlt0 hd0 hA0 ih0 => ?_) (()) _ _ hA
  · refine Wq.jmp (q87_7 ..) (fun _ => rfl) ?_
    simp only [stpF, cond_true, cond_false, eq_self, List.length_nil, Int.reduceEq, Int.reduceLT, Int.reduceLE, sttF, List.length_map, not_lt_len]
    rw [expsRt, Bool.true_and]
    refine Wq.callR rfl (w_141 e H0 nx0 hA0) fun u H1 nx1 hA1 hu => ?_
    refine Wq.call (both_25.1 (bareE e) (bareE_ok h) e u hu) hA1 fun H2 nx2 hA2 => ?_
    cases eqb (bareE e) e with
    | false => simp only [stpF, cond_true, cond_false, eq_self, List.length_nil, Int.reduceEq, Int.reduceLT, Int.reduceLE]; exact L16 _ _ hA2
    | true =>
    rw [Bool.true_and]
    simp only [stpF, cond_true, cond_false, eq_self, List.length_nil, Int.reduceEq, Int.reduceLT, Int.reduceLE]
    refine Wq.call (pu_89' e.p hp hp' (by omega)) hA2 fun H3 nx3 hA3 => ?_
    cases patsRt e.p with
    | false => simp only [stpF, cond_true, cond_false, eq_self, List.length_nil, Int.reduceEq, Int.reduceLT, Int.reduceLE]; exact L16 _ _ hA3
    | true =>
    rw [Bool.true_and]
    simp only [stpF, cond_true, cond_false, eq_self, List.length_nil, Int.reduceEq, Int.reduceLT, Int.reduceLE]
    refine Wq.call hD hA3 fun H4 nx4 hA4 => ?_
    cases decsRt e.d with
    | false => simp only [stpF, cond_true, cond_false, eq_self, List.length_nil, Int.reduceEq, Int.reduceLT, Int.reduceLE]; exact L16 _ _ hA4
    | true =>
    rw [Bool.true_and]
    simp only [stpF, cond_true, cond_false, eq_self, List.length_nil, Int.reduceEq, Int.reduceLT, Int.reduceLE]
    exact w_87_16 e h hs _ _ hA4
  · have hx0 : ((e.l).map Exp.v)[i0]? = some (Exp.v a0) := by simp [hg0]
    have hm0 := List.mem_of_getElem? hg0
    refine Wq.jmp (q87_7 ..) (fun _ => rfl) ?_
    simp only [stpF, cond_true, cond_false, eq_self, List.length_nil, Int.reduceEq, Int.reduceLT, Int.reduceLE, sttF, List.length_map, is_lt_len hlt0, ix_41 hx0]
    refine Wq.call (hE a0 hm0) hA0 fun H2 nx2 hA2 => ?_
    rw [expsRt]
    cases expR a0 with
    | false => simp only [stpF, cond_true, cond_false, eq_self, List.length_nil, Int.reduceEq, Int.reduceLT, Int.reduceLE, Bool.false_and]; exact Wq.ret hA2
    | true =>
      simp only [stpF, cond_true, cond_false, eq_self, List.length_nil, Int.reduceEq, Int.reduceLT, Int.reduceLE, Bool.true_and, wrap_succ (show i0 < 9223372036854775807 by have := sm_lt hl; omega)]
      exact ih0 () _ _ hA2
end
end Go.Proofs.YthjhonhhbddhkaaGreatDoor
/- The document: which declarations are right. -/
namespace Go.Proofs.YthjhonhhbddhkaaGreatDoor
open Go.Ev Go.RowKit
noncomputable section
set_option maxRecDepth 100000
set_option linter.unusedVariables false
set_option linter.unusedSimpArgs false
variable {nx0 : Nat} {H0 : T OB}
theorem fl_57 (c0 c1 c2 c3 c4 c5 c6 c7 c8 c9 c10 c11 c12 c13 c14 c15 c16 : Value) : Instr.fill (fun i => some (i * 17, 17)) (zeroRow [Value.int .i64 0, Value.int .i64 0, Value.int .i64 0, Value.string ⟨⟨[]⟩⟩, Value.slice none 0 0, Value.int .i64 0, Value.int .i64 0, Value.string ⟨⟨[]⟩⟩, Value.slice none 0 0, Value.slice none 0 0, Value.slice none 0 0, Value.slice none 0 0, Value.slice none 0 0, Value.string ⟨⟨[]⟩⟩, Value.slice none 0 0, Value.string ⟨⟨[]⟩⟩, Value.slice none 0 0] (1 * 17)) [(0, .agg ⟨[c0, c1, c2, c3, c4, c5, c6, c7, c8, c9, c10, c11, c12, c13, c14, c15, c16]⟩)] = some ⟨[c0, c1, c2, c3, c4, c5, c6, c7, c8, c9, c10, c11, c12, c13, c14, c15, c16]⟩ := by kernel_rfl
theorem fl_57d (d : Dec) : Instr.fill (fun i => some (i * 17, 17)) (zeroRow [Value.int .i64 0, Value.int .i64 0, Value.int .i64 0, Value.string ⟨⟨[]⟩⟩, Value.slice none 0 0, Value.int .i64 0, Value.int .i64 0, Value.string ⟨⟨[]⟩⟩, Value.slice none 0 0, Value.slice none 0 0, Value.slice none 0 0, Value.slice none 0 0, Value.slice none 0 0, Value.string ⟨⟨[]⟩⟩, Value.slice none 0 0, Value.string ⟨⟨[]⟩⟩, Value.slice none 0 0] (1 * 17)) [(0, d.v)] = some ⟨d.cs⟩ := by
  rw [Dec.v_eq, Dec.cs_eq]
  exact fl_57 _ _ _ _ _ _ _ _ _ _ _ _ _ _ _ _ _
theorem zero_57' : zeroC P 57 = some [Value.int .i64 0, Value.int .i64 0, Value.int .i64 0, Value.string ⟨⟨[]⟩⟩, Value.slice none 0 0, Value.int .i64 0, Value.int .i64 0, Value.string ⟨⟨[]⟩⟩, Value.slice none 0 0, Value.slice none 0 0, Value.slice none 0 0, Value.slice none 0 0, Value.slice none 0 0, Value.string ⟨⟨[]⟩⟩, Value.slice none 0 0, Value.string ⟨⟨[]⟩⟩, Value.slice none 0 0] := by kernel_rfl
theorem bd_57 (k : Int) : rdBuild P 57 (some [(0, i64 k)]) = some (.agg ⟨[i64 k, i64 0, i64 0, txt [], nilS, i64 0, i64 0, txt [], nilS, nilS, nilS, nilS, nilS, txt [], nilS, txt [], nilS]⟩) := rdBuild_of zero_57' (by kernel_rfl)
theorem pat0_ok : pat0.ok := by rw [Pat.ok_iff]; exact ⟨by show rg 0; unfold rg; omega, by show ([] : List UInt8).length < _; simp, by show 0 < big; decide, fun c hc => nomatch hc⟩
theorem exp0_ok : exp0.ok := by
  rw [Exp.ok_iff]
  exact ⟨by show rg 0; unfold rg; omega, by show ([] : List UInt8).length < _; simp, ⟨by show 0 < big; decide, fun c hc => nomatch hc⟩, ⟨by show 0 < big; decide, fun c hc => nomatch hc⟩, by show 0 < big; decide, fun c hc => nomatch hc⟩
theorem data0_ok : data0.ok := ⟨⟨by show 0 < big; decide, fun c hc => nomatch hc⟩, by show ([] : List UInt8).length < _; simp, by show 0 < big; decide, fun c hc => nomatch hc⟩
theorem con0_ok : con0.ok := ⟨by show ([] : List UInt8).length < _; simp, by show 0 < big; decide, fun c hc => nomatch hc⟩
theorem bareD_ok {d : Dec} (h : d.ok) : (bareD d).ok := by
  rw [Dec.ok_iff] at h ⊢
  obtain ⟨h1, h2, h3, h4, h5⟩ := h
  refine ⟨?_, ?_, ?_, ?_, ?_⟩
  · show (if d.k = 1 then d.p else pat0).ok
    split
    · exact h1
    · exact pat0_ok
  · show (if d.k = 1 ∨ d.k = 5 then d.e else exp0).ok
    split
    · exact h2
    · exact exp0_ok
  · show (if d.k = 2 then d.f else []).length < big ∧ ∀ c, c ∈ (if d.k = 2 then d.f else []) → c.ok
    split
    · exact h3
    · exact ⟨by show 0 < big; decide, fun c hc => nomatch hc⟩
  · show (if d.k = 3 then d.x else data0).ok
    split
    · exact h4
    · exact data0_ok
  · show (if d.k = 4 then d.c else con0).ok
    split
    · exact h5
    · exact con0_ok
/-- A declaration beside the same one, bare. -/
theorem Wq.same {d : Dec} (hd : d.ok) {bb : Nat} {c0 c1 c2 c3 c4 c5 c6 c7 c8 c9 c10 c11 c12 c13 c14 c15 c16 : Value} {H : T OB} {nx : Nat} {R : Value → T OB → Nat → Prop} {k p : Value → T OB → Nat → Q} (hb : IsB H bb [c0, c1, c2, c3, c4, c5, c6, c7, c8, c9, c10, c11, c12, c13, c14, c15, c16] 57) (hV : VDec (bareD d) (.agg ⟨[c0, c1, c2, c3, c4, c5, c6, c7, c8, c9, c10, c11, c12, c13, c14, c15, c16]⟩)) (hA : Ag nx0 H0 nx H)
    (hk : ∀ H' nx', Ag nx0 H0 nx' H' → WqR P pl X0 (k (.bool (eqb (bareD d) d)) H' nx') nx0 H0 R) :
    WqR P pl X0 (optK (rdLoad P H 57 (some (.pointer (some ⟨bb, 0, none⟩)))) (fun x => effQ (efBuildSlice P H nx 24 1 (some [(0, x)])) (fun y H nx => effQ (efBuildSlice P H nx 24 1 (some [(0, d.v)])) (fun z H nx => callQ (.call 14 [y, z] false none H nx) k p))) .bad) nx0 H0 R := by
  rw [rdLoad_agg hb agg_57 sz_57 (by simp)]
  refine Wq.row und_24 sz_57 zero_57' rfl (fl_57 _ _ _ _ _ _ _ _ _ _ _ _ _ _ _ _ _) hA fun H1 h1 k1 hA1 => ?_
  refine Wq.row und_24 sz_57 zero_57' rfl (fl_57d d) hA1 fun H2 h2 k2 hA2 => ?_
  refine Wq.callAt rfl (w_14h (bareD d) d (bareD_ok hd) _ hV nx (nx + 1) (by omega) H2 _ (k2 _ _ _ (by omega) h1) h2 hA.1 (by have := hA.1; omega) hA2) hk
theorem pu_45a (d : Dec) (hd : d.ok) (hz : d.z ≤ 500) (hE : P0 87 [d.e.v] (.bool (expR d.e))) (hF : ∀ f, f ∈ d.f → P0 87 [f.b.v] (.bool (expR f.b))) : P0 45 [d.v] (.bool (decR d)) := Pure.of rfl fun H nx => by
  have hd' := (Dec.ok_iff d).1 hd
  obtain ⟨hp, he, ⟨hfl, hf⟩, hx, hc⟩ := hd'
  rw [Dec.z_eq] at hz
  rw [q45, decR_eq]
  refine Wq.natF' (.refl _ _) fun hA => ?_
  simp only [stpF, cond_true, cond_false, eq_self, List.length_nil, Int.reduceEq, Int.reduceLT, Int.reduceLE, sttF, List.length_map, bd_57]
  refine Wq.alloc zero_57' hA fun H1 hb _ hA1 => ?_
  refine Wq.store hb sz_57 (by simp) rfl rfl hA1 (by omega) fun H2 hb _ hA2 => ?_
  replace hb : IsB H2 (nx + 1) [i64 d.k, i64 0, i64 0, txt [], nilS, i64 0, i64 0, txt [], nilS, nilS, nilS, nilS, nilS, txt [], nilS, txt [], nilS] 57 := hb
  clear hA1
  refine Wq.ite (fun g => ?_) (fun g1 => ?_)
  · rw [if_pos g]
    refine Wq.store hb sz_47 (by simp) (nPat _) (oPat _) hA2 (by omega) fun H3 hb _ hA3 => ?_
    rw [Pat.v_eq] at hb
    replace hb : IsB H3 (nx + 1) [i64 d.k, i64 d.p.k, i64 d.p.n, txt d.p.s, patsR d.p.l, i64 0, i64 0, txt [], nilS, nilS, nilS, nilS, nilS, txt [], nilS, txt [], nilS] 57 := hb
    simp only [stpF, cond_true, cond_false, eq_self, List.length_nil, Int.reduceEq, Int.reduceLT, Int.reduceLE, sttF, List.length_map, fp_57_2]
    refine Wq.store hb sz_44 (by simp) (nExp _) (oExp _) hA3 (by omega) fun H4 hb _ hA4 => ?_
    rw [Exp.v_eq] at hb
    replace hb : IsB H4 (nx + 1) [i64 d.k, i64 d.p.k, i64 d.p.n, txt d.p.s, patsR d.p.l, i64 d.e.k, i64 d.e.n, txt d.e.s, expsR d.e.l, patsR d.e.p, decsR d.e.d, nilS, nilS, txt [], nilS, txt [], nilS] 57 := hb
    have hV : VDec (bareD d) (.agg ⟨[i64 d.k, i64 d.p.k, i64 d.p.n, txt d.p.s, patsR d.p.l, i64 d.e.k, i64 d.e.n, txt d.e.s, expsR d.e.l, patsR d.e.p, decsR d.e.d, nilS, nilS, txt [], nilS, txt [], nilS]⟩) := by
      have e : bareD d = .mk d.k d.p d.e [] data0 con0 := by unfold bareD; simp [g]
      rw [e]
      exact ⟨_, _, _, _, _, _, _, _, rfl, .row _ _, .row _ _, .row _ _, .row _ _, .nil _, .nil _, .nil _, .nil _⟩
    refine Wq.same hd hb hV hA4 fun H5 nx5 hA5 => ?_
    simp only [stpF, cond_true, cond_false, eq_self, List.length_nil, Int.reduceEq, Int.reduceLT, Int.reduceLE]
    refine Wq.bK (fun h => ?_) (fun h => by rw [h, Bool.false_and]; exact Wq.ret hA5)
    rw [h, Bool.true_and]
    refine Wq.call (pu_86 d.p hp (by omega)) hA5 fun H6 nx6 hA6 => ?_
    simp only [stpF, cond_true, cond_false, eq_self, List.length_nil, Int.reduceEq, Int.reduceLT, Int.reduceLE]
    refine Wq.bK (fun h => ?_) (fun h => by rw [h, Bool.false_and]; exact Wq.ret hA6)
    rw [h, Bool.true_and]
    refine Wq.call hE hA6 fun H7 nx7 hA7 => ?_
    simp only [stpF, cond_true, cond_false, eq_self, List.length_nil, Int.reduceEq, Int.reduceLT, Int.reduceLE]
    exact Wq.ret hA7
  rw [if_neg g1]
  refine Wq.ite (fun g => ?_) (fun g5 => ?_)
  · rw [if_pos g]
    refine Wq.store hb sz_44 (by simp) (nExp _) (oExp _) hA2 (by omega) fun H4 hb _ hA4 => ?_
    rw [Exp.v_eq] at hb
    replace hb : IsB H4 (nx + 1) [i64 d.k, i64 0, i64 0, txt [], nilS, i64 d.e.k, i64 d.e.n, txt d.e.s, expsR d.e.l, patsR d.e.p, decsR d.e.d, nilS, nilS, txt [], nilS, txt [], nilS] 57 := hb
    have hV : VDec (bareD d) (.agg ⟨[i64 d.k, i64 0, i64 0, txt [], nilS, i64 d.e.k, i64 d.e.n, txt d.e.s, expsR d.e.l, patsR d.e.p, decsR d.e.d, nilS, nilS, txt [], nilS, txt [], nilS]⟩) := by
      have e : bareD d = .mk d.k pat0 d.e [] data0 con0 := by unfold bareD; simp [g]
      rw [e]
      exact ⟨_, _, _, _, _, _, _, _, rfl, .nil _, .row _ _, .row _ _, .row _ _, .nil _, .nil _, .nil _, .nil _⟩
    refine Wq.same hd hb hV hA4 fun H5 nx5 hA5 => ?_
    simp only [stpF, cond_true, cond_false, eq_self, List.length_nil, Int.reduceEq, Int.reduceLT, Int.reduceLE]
    refine Wq.bK (fun h => ?_) (fun h => by rw [h, Bool.false_and]; exact Wq.ret hA5)
    rw [h, Bool.true_and]
    refine Wq.call hE hA5 fun H7 nx7 hA7 => ?_
    simp only [stpF, cond_true, cond_false, eq_self, List.length_nil, Int.reduceEq, Int.reduceLT, Int.reduceLE]
    exact Wq.ret hA7
  rw [if_neg g5]
  refine Wq.ite (fun g => ?_) (fun g2 => ?_)
  · rw [if_pos g]
    refine Wq.put hb sz_48 rfl rfl (by simp) rfl hA2 (by omega) fun H3 hb _ hA3 => ?_
    have hV : VDec (bareD d) (.agg ⟨[i64 d.k, i64 0, i64 0, txt [], nilS, i64 0, i64 0, txt [], nilS, nilS, nilS, fnsR d.f, nilS, txt [], nilS, txt [], nilS]⟩) := by
      have e : bareD d = .mk d.k pat0 exp0 d.f data0 con0 := by unfold bareD; simp [g]
      rw [e]
      exact ⟨_, _, _, _, _, _, _, _, rfl, .nil _, .nil _, .nil _, .nil _, .row _ _, .nil _, .nil _, .nil _⟩
    refine Wq.base hA3 ?_
    refine Wq.each (d.f) (fun i (_ : Unit) Hq nq => .jump (l45_29 (eptrV d.v) (.pointer (some ⟨nx + 1, 0, none⟩)) (i64 (i : Int)) Hq nq)) (fun t (_ : Unit) => .bool (fnsRt t && (decide (0 < d.f.length) && eqb (bareD d) d))) (fun s0 H0' nx0' hA0 => ?_) (fun i0 a0 t0 s0 H0' nx0' hg0 hlt0 hd0 hA0 ih0 => ?_) (()) _ _ (.refl _ _)
    · refine Wq.jmp (q45_29 ..) (fun _ => rfl) ?_
      simp only [stpF, cond_true, cond_false, eq_self, List.length_nil, Int.reduceEq, Int.reduceLT, Int.reduceLE, sttF, List.length_map, not_lt_len]
      rw [fnsRt, Bool.true_and]
      simp only [stpF, cond_true, cond_false, eq_self, List.length_nil, Int.reduceEq, Int.reduceLT, Int.reduceLE, nat_gt0]
      refine Wq.bK (fun h => ?_) (fun h => by rw [h, Bool.false_and]; exact Wq.ret hA0)
      rw [h, Bool.true_and]
      refine Wq.same hd (hb.ag hA0 (by omega)) hV hA0 fun H5 nx5 hA5 => ?_
      simp only [stpF, cond_true, cond_false, eq_self, List.length_nil, Int.reduceEq, Int.reduceLT, Int.reduceLE]
      exact Wq.ret hA5
    · have hx0 : ((d.f).map Fn.v)[i0]? = some (Fn.v a0) := by simp [hg0]
      have hm0 := List.mem_of_getElem? hg0
      refine Wq.jmp (q45_29 ..) (fun _ => rfl) ?_
      simp only [stpF, cond_true, cond_false, eq_self, List.length_nil, Int.reduceEq, Int.reduceLT, Int.reduceLE, sttF, List.length_map, is_lt_len hlt0, ix_48 hx0]
      refine Wq.var zero_65 sz_65 rfl (nFn _) (oFn _) hA0 fun H4 nx4 hA4 => ?_
      have hfa := (Fn.ok_iff a0).1 (hf a0 hm0)
      have hza := fnsZ_mem hm0
      have hzb := a0.z_eq
      have L36 : ∀ (b : Bool) H1 nx1, Ag (nx + 1 + 1) H3 nx1 H1 → b = !fnR a0 → Wq P pl X0 (.jump (l45_36 (eptrV d.v) (.pointer (some ⟨nx + 1, 0, none⟩)) (i64 (i0 : Int)) b H1 nx1)) (nx + 1 + 1) H3 (.bool (fnsRt (a0 :: t0) && (decide (0 < d.f.length) && eqb (bareD d) d))) := by
        intro b H1 nx1 hA1 hb
        refine Wq.jmp (q45_36 ..) (fun _ => rfl) ?_
        rw [fnsRt]
        cases hx : fnR a0 with
        | false => rw [hx] at hb; rw [hb, Bool.false_and]; exact Wq.ret hA1
        | true =>
          rw [hx] at hb
          rw [hb, Bool.true_and]
          simp only [stpF, cond_true, cond_false, eq_self, List.length_nil, Int.reduceEq, Int.reduceLT, Int.reduceLE, wrap_succ (show i0 < 9223372036854775807 by have := sm_lt hfl; omega)]
          exact ih0 () _ _ hA1
      rw [fnR_eq] at L36
      refine Wq.call (pu_88 3 _ (by omega) (by simp)) hA4 fun H5 nx5 hA5 => ?_
      cases h1 : wordOk 3 a0.s with
      | false => rw [h1] at L36; simp only [stpF, cond_true, cond_false, eq_self, List.length_nil, Int.reduceEq, Int.reduceLT, Int.reduceLE]; exact L36 _ _ _ hA5 rfl
      | true =>
      rw [h1, Bool.true_and] at L36
      simp only [stpF, cond_true, cond_false, eq_self, List.length_nil, Int.reduceEq, Int.reduceLT, Int.reduceLE, sttF, List.length_map, nat_eq0]
      refine Wq.ite (fun h => L36 _ _ _ hA5 (by simp [h])) (fun h => ?_)
      rw [show decide (0 < a0.p.length) = true by simp; omega, Bool.true_and] at L36
      refine Wq.call (pu_89' a0.p hfa.2.1.1 hfa.2.1.2 (by omega)) hA5 fun H6 nx6 hA6 => ?_
      cases h2 : patsRt a0.p with
      | false => rw [h2] at L36; simp only [stpF, cond_true, cond_false, eq_self, List.length_nil, Int.reduceEq, Int.reduceLT, Int.reduceLE]; exact L36 _ _ _ hA6 rfl
      | true =>
      rw [h2, Bool.true_and] at L36
      simp only [stpF, cond_true, cond_false, eq_self, List.length_nil, Int.reduceEq, Int.reduceLT, Int.reduceLE]
      refine Wq.call (hF a0 hm0) hA6 fun H7 nx7 hA7 => ?_
      simp only [stpF, cond_true, cond_false, eq_self, List.length_nil, Int.reduceEq, Int.reduceLT, Int.reduceLE]
      exact L36 _ _ _ hA7 rfl
  rw [if_neg g2]
  refine Wq.ite (fun g => ?_) (fun g3 => ?_)
  · rw [if_pos g]
    refine Wq.store hb sz_52 (by simp) (nData _) (oData _) hA2 (by omega) fun H3 hb _ hA3 => ?_
    rw [Data.v_eq] at hb
    replace hb : IsB H3 (nx + 1) [i64 d.k, i64 0, i64 0, txt [], nilS, i64 0, i64 0, txt [], nilS, nilS, nilS, nilS, strsR d.x.vars, txt d.x.s, consR d.x.cons, txt [], nilS] 57 := hb
    have hV : VDec (bareD d) (.agg ⟨[i64 d.k, i64 0, i64 0, txt [], nilS, i64 0, i64 0, txt [], nilS, nilS, nilS, nilS, strsR d.x.vars, txt d.x.s, consR d.x.cons, txt [], nilS]⟩) := by
      have e : bareD d = .mk d.k pat0 exp0 [] d.x con0 := by unfold bareD; simp [g]
      rw [e]
      exact ⟨_, _, _, _, _, _, _, _, rfl, .nil _, .nil _, .nil _, .nil _, .nil _, .row _ _, .row _ _, .nil _⟩
    have hzx := hz
    unfold Data.z at hzx
    refine Wq.base hA3 ?_
    refine Wq.each (d.x.vars) (fun i (_ : Unit) Hq nq => .jump (l45_47 (eptrV d.v) (.pointer (some ⟨nx + 1, 0, none⟩)) (i64 (i : Int)) Hq nq)) (fun t (_ : Unit) => .bool (varsRt t && (consRt d.x.cons && (wordOk 3 d.x.s && (decide (0 < d.x.cons.length) && eqb (bareD d) d))))) (fun s0 H0' nx0' hA0 => ?_) (fun i0 a0 t0 s0 H0' nx0' hg0 hlt0 hd0 hA0 ih0 => ?_) (()) _ _ (.refl _ _)
    · refine Wq.jmp (q45_47 ..) (fun _ => rfl) ?_
      simp only [stpF, cond_true, cond_false, eq_self, List.length_nil, Int.reduceEq, Int.reduceLT, Int.reduceLE, sttF, List.length_map, not_lt_len]
      rw [varsRt, Bool.true_and]
      refine Wq.each (d.x.cons) (fun i (_ : Unit) Hq nq => .jump (l45_57 (eptrV d.v) (.pointer (some ⟨nx + 1, 0, none⟩)) (i64 (i : Int)) Hq nq)) (fun t (_ : Unit) => .bool (consRt t && (wordOk 3 d.x.s && (decide (0 < d.x.cons.length) && eqb (bareD d) d)))) (fun s8 H8 nx8 hA8 => ?_) (fun i8 a8 t8 s8 H8 nx8 hg8 hlt8 hd8 hA8 ih8 => ?_) (()) _ _ hA0
      · refine Wq.jmp (q45_57 ..) (fun _ => rfl) ?_
        simp only [stpF, cond_true, cond_false, eq_self, List.length_nil, Int.reduceEq, Int.reduceLT, Int.reduceLE, sttF, List.length_map, not_lt_len]
        rw [consRt, Bool.true_and]
        refine Wq.call (pu_88 3 _ (by omega) (by simp)) hA8 fun H5 nx5 hA5 => ?_
        simp only [stpF, cond_true, cond_false, eq_self, List.length_nil, Int.reduceEq, Int.reduceLT, Int.reduceLE, sttF, List.length_map, nat_gt0]
        refine Wq.bK (fun h => ?_) (fun h => by rw [h, Bool.false_and]; exact Wq.ret hA5)
        rw [h, Bool.true_and]
        refine Wq.bK (fun h => ?_) (fun h => by rw [h, Bool.false_and]; exact Wq.ret hA5)
        rw [h, Bool.true_and]
        refine Wq.same hd (hb.ag hA5 (by omega)) hV hA5 fun H6 nx6 hA6 => ?_
        simp only [stpF, cond_true, cond_false, eq_self, List.length_nil, Int.reduceEq, Int.reduceLT, Int.reduceLE]
        exact Wq.ret hA6
      · have hx8 : ((d.x.cons).map Con.v)[i8]? = some (Con.v a8) := by simp [hg8]
        have hm8 := List.mem_of_getElem? hg8
        refine Wq.jmp (q45_57 ..) (fun _ => rfl) ?_
        simp only [stpF, cond_true, cond_false, eq_self, List.length_nil, Int.reduceEq, Int.reduceLT, Int.reduceLE, sttF, List.length_map, is_lt_len hlt8, ix_50 hx8]
        refine Wq.call (pu_90 a8 (hx.2.2.2 a8 hm8) (by have := consZ_mem hm8; omega)) hA8 fun H2 nx2 hA2 => ?_
        rw [consRt]
        cases conR a8 with
        | false => simp only [stpF, cond_true, cond_false, eq_self, List.length_nil, Int.reduceEq, Int.reduceLT, Int.reduceLE, Bool.false_and]; exact Wq.ret hA2
        | true =>
          simp only [stpF, cond_true, cond_false, eq_self, List.length_nil, Int.reduceEq, Int.reduceLT, Int.reduceLE, Bool.true_and, wrap_succ (show i8 < 9223372036854775807 by have := sm_lt hx.2.2.1; omega)]
          exact ih8 () _ _ hA2
    · have hx0 : ((d.x.vars).map txt)[i0]? = some (txt a0) := by simp [hg0]
      have hm0 := List.mem_of_getElem? hg0
      refine Wq.jmp (q45_47 ..) (fun _ => rfl) ?_
      simp only [stpF, cond_true, cond_false, eq_self, List.length_nil, Int.reduceEq, Int.reduceLT, Int.reduceLE, sttF, List.length_map, is_lt_len hlt0, ix_49 hx0]
      refine Wq.call (pu_88 5 _ (by have := strsZ_mem hm0; omega) (by simp)) hA0 fun H2 nx2 hA2 => ?_
      rw [varsRt]
      cases wordOk 5 a0 with
      | false => simp only [stpF, cond_true, cond_false, eq_self, List.length_nil, Int.reduceEq, Int.reduceLT, Int.reduceLE, Bool.false_and]; exact Wq.ret hA2
      | true =>
        simp only [stpF, cond_true, cond_false, eq_self, List.length_nil, Int.reduceEq, Int.reduceLT, Int.reduceLE, Bool.true_and, wrap_succ (show i0 < 9223372036854775807 by have := sm_lt hx.1.1; omega)]
        exact ih0 () _ _ hA2
  rw [if_neg g3]
  refine Wq.ite (fun g => ?_) (fun g4 => ?_)
  · rw [if_pos g]
    refine Wq.store hb sz_55 (by simp) (nCon _) (oCon _) hA2 (by omega) fun H3 hb _ hA3 => ?_
    rw [Con.v_eq] at hb
    replace hb : IsB H3 (nx + 1) [i64 d.k, i64 0, i64 0, txt [], nilS, i64 0, i64 0, txt [], nilS, nilS, nilS, nilS, nilS, txt [], nilS, txt d.c.s, tysR d.c.arg] 57 := hb
    have hV : VDec (bareD d) (.agg ⟨[i64 d.k, i64 0, i64 0, txt [], nilS, i64 0, i64 0, txt [], nilS, nilS, nilS, nilS, nilS, txt [], nilS, txt d.c.s, tysR d.c.arg]⟩) := by
      have e : bareD d = .mk d.k pat0 exp0 [] data0 d.c := by unfold bareD; simp [g]
      rw [e]
      exact ⟨_, _, _, _, _, _, _, _, rfl, .nil _, .nil _, .nil _, .nil _, .nil _, .nil _, .nil _, .row _ _⟩
    refine Wq.callB (pu_90 d.c hc (by omega)) hA3 fun H4 nx4 hA4 n4 k4 => ?_
    replace hb := k4 _ _ _ (by omega) hb
    simp only [stpF, cond_true, cond_false, eq_self, List.length_nil, Int.reduceEq, Int.reduceLT, Int.reduceLE]
    refine Wq.bK (fun h => ?_) (fun h => by rw [h, Bool.false_and]; exact Wq.ret hA4)
    rw [h, Bool.true_and]
    refine Wq.same hd hb hV hA4 fun H5 nx5 hA5 => ?_
    simp only [stpF, cond_true, cond_false, eq_self, List.length_nil, Int.reduceEq, Int.reduceLT, Int.reduceLE]
    exact Wq.ret hA5
  · rw [if_neg g4]
    refine Wq.jmp (q45_72 ..) (fun _ => rfl) ?_
    exact Wq.ret hA2
theorem pu_21 (l : List Dec) (hl : l.length < big) (ih : ∀ d, d ∈ l → P0 45 [d.v] (.bool (decR d))) : P0 21 [decsR l] (.bool (decsRt l)) := Pure.of rfl fun H nx => by
  rw [q21]
  refine Wq.each (l) (fun i (_ : Unit) H nx => .jump (l21_7 (decsR l) (i64 (i : Int)) H nx)) (fun t (_ : Unit) => .bool (decsRt t)) (fun s0 H0 nx0 hA0 => ?_) (fun i0 a0 t0 s0 H0 nx0 hg0 hlt0 hd0 hA0 ih0 => ?_) (()) _ _ (.refl _ _)
  · refine Wq.jmp (q21_7 ..) (fun _ => rfl) ?_
    simp only [stpF, cond_true, cond_false, eq_self, List.length_nil, Int.reduceEq, Int.reduceLT, Int.reduceLE, sttF, List.length_map, not_lt_len]
    exact Wq.ret hA0
  · have hx0 : ((l).map Dec.v)[i0]? = some (Dec.v a0) := by simp [hg0]
    have hm0 := List.mem_of_getElem? hg0
    refine Wq.jmp (q21_7 ..) (fun _ => rfl) ?_
    simp only [stpF, cond_true, cond_false, eq_self, List.length_nil, Int.reduceEq, Int.reduceLT, Int.reduceLE, sttF, List.length_map, is_lt_len hlt0, ix_24 hx0]
    refine Wq.call (ih a0 hm0) hA0 fun H2 nx2 hA2 => ?_
    rw [decsRt]
    cases decR a0 with
    | false => simp only [stpF, cond_true, cond_false, eq_self, List.length_nil, Int.reduceEq, Int.reduceLT, Int.reduceLE, Bool.false_and]; exact Wq.ret hA2
    | true =>
      simp only [stpF, cond_true, cond_false, eq_self, List.length_nil, Int.reduceEq, Int.reduceLT, Int.reduceLE, Bool.true_and, wrap_succ (show i0 < 9223372036854775807 by have := sm_lt hl; omega)]
      exact ih0 () _ _ hA2
theorem both_87 : (∀ e : Exp, e.ok → e.z ≤ 500 → P0 87 [e.v] (.bool (expR e))) ∧ ∀ d : Dec, d.ok → d.z ≤ 500 → P0 45 [d.v] (.bool (decR d)) := by
  have A : ∀ e : Exp, (∀ c, c ∈ e.l → c.ok → c.z ≤ 500 → P0 87 [c.v] (.bool (expR c))) → (∀ c, c ∈ e.d → c.ok → c.z ≤ 500 → P0 45 [c.v] (.bool (decR c))) → e.ok → e.z ≤ 500 → P0 87 [e.v] (.bool (expR e)) := fun e h1 h2 h hz => by
    have h' := (Exp.ok_iff e).1 h
    have hz' := hz
    rw [Exp.z_eq] at hz'
    exact pu_87a e h hz (fun c hc => h1 c hc (h'.2.2.1.2 c hc) (by have := expsZ_mem hc; omega)) (pu_21 e.d h'.2.2.2.2.1 fun d hd => h2 d hd (h'.2.2.2.2.2 d hd) (by have := decsZ_mem hd; omega))
  have B : ∀ d : Dec, (d.e.ok → d.e.z ≤ 500 → P0 87 [d.e.v] (.bool (expR d.e))) → (∀ f, f ∈ d.f → f.b.ok → f.b.z ≤ 500 → P0 87 [f.b.v] (.bool (expR f.b))) → d.ok → d.z ≤ 500 → P0 45 [d.v] (.bool (decR d)) := fun d h1 h2 h hz => by
    have h' := (Dec.ok_iff d).1 h
    have hz' := hz
    rw [Dec.z_eq] at hz'
    exact pu_45a d h hz (h1 h'.2.1 (by omega)) fun f hf => h2 f hf ((Fn.ok_iff f).1 (h'.2.2.1.2 f hf)).2.2 (by have := fnsZ_mem hf; have := f.z_eq; omega)
  exact ⟨Exp.ind A B, Dec.ind A B⟩
/-- The document's answer: could declarations be read? -/
theorem pu_21' (l : List Dec) (hl : l.length < big) (h : ∀ d, d ∈ l → d.ok) (hz : decsZ l ≤ 500) : P0 21 [decsR l] (.bool (decsRt l)) := pu_21 l hl fun d hd => both_87.2 d (h d hd) (by have := decsZ_mem hd; omega)
end
end Go.Proofs.YthjhonhhbddhkaaGreatDoor
/- How many parts: the counting. -/
namespace Go.Proofs.YthjhonhhbddhkaaGreatDoor
open Go.Ev Go.RowKit
noncomputable section
set_option maxRecDepth 100000
set_option linter.unusedVariables false
set_option linter.unusedSimpArgs false
variable {nx0 : Nat} {H0 : T OB}
theorem Wq.eachW {α σ : Type} {R : Value → T OB → Nat → Prop} (l : List α) (I : List α → σ → Prop) (q : Nat → σ → T OB → Nat → Q) (hend : ∀ s H1 nx1, I [] s → Ag nx0 H0 nx1 H1 → WqR P pl X0 (q l.length s H1 nx1) nx0 H0 R)
    (hstep : ∀ i a t s H1 nx1, l[i]? = some a → i < l.length → I (a :: t) s → Ag nx0 H0 nx1 H1 → (∀ s H2 nx2, I t s → Ag nx0 H0 nx2 H2 → WqR P pl X0 (q (i + 1) s H2 nx2) nx0 H0 R) → WqR P pl X0 (q i s H1 nx1) nx0 H0 R)
    (s : σ) (H1 : T OB) (nx1 : Nat) (hI : I l s) (hA : Ag nx0 H0 nx1 H1) : WqR P pl X0 (q 0 s H1 nx1) nx0 H0 R := by
  have key : ∀ (t : List α) (i : Nat), l.drop i = t → i ≤ l.length → ∀ s H1 nx1, I t s → Ag nx0 H0 nx1 H1 → WqR P pl X0 (q i s H1 nx1) nx0 H0 R := by
    intro t
    induction t with
    | nil =>
      intro i hd hi s H1 nx1 hI hA
      have hil := drop_nil hd hi
      subst hil
      exact hend s H1 nx1 hI hA
    | cons a t ih =>
      intro i hd hi s H1 nx1 hI hA
      obtain ⟨hg, hlt, hd'⟩ := drop_cons hd
      exact hstep i a t s H1 nx1 hg hlt hI hA fun s H2 nx2 h1 h2 => ih (i + 1) hd' (by omega) s H2 nx2 h1 h2
  exact key l 0 rfl (Nat.zero_le _) s H1 nx1 hI hA
abbrev rgm (m : Int) : Prop := -2305843009213693952 ≤ m ∧ m ≤ 500
abbrev rgd (m : Int) : Prop := -4611686018427387904 ≤ m ∧ m ≤ 500
abbrev bnd (m r : Int) (k : Int) : Prop := (0 ≤ m → r ≤ k * 35184372088832 + 2251799813685248 * m) ∧ (m < 0 → r ≤ k * 35184372088832)
/-- A count, as far as it is asked. -/
def Sz (m : Int) (z : Nat) (r : Int) : Prop := 1 ≤ r ∧ bnd m r 1 ∧ (r ≤ m → r = z)
def Sd (m : Int) (z : Nat) (r : Int) : Prop := 0 ≤ r ∧ bnd m r 8 ∧ (m < 0 → r = 0) ∧ (r ≤ m → r = z)
abbrev SzR (m : Int) (z : Nat) : Value → T OB → Nat → Prop := fun v _ _ => ∃ r, v = i64 r ∧ Sz m z r
abbrev SdR (m : Int) (z : Nat) : Value → T OB → Nat → Prop := fun v _ _ => ∃ r, v = i64 r ∧ Sd m z r
def Cnt (f : FuncId) (v : Value) (z : Nat) : Prop := ∀ (m : Int), rgm m → ∀ nx0 H0 H nx, Ag nx0 H0 nx H → WqR P pl X0 (evT P pl (.call f [v, i64 m] false none H nx)) nx0 H0 (SzR m z)
theorem Wq.cnt {f : FuncId} {v : Value} {z : Nat} (h : Cnt f v z) {m : Int} (hx : X0 f [v, i64 m] = none) (hm : rgm m) {H : T OB} {nx : Nat} {R : Value → T OB → Nat → Prop} {k p : Value → T OB → Nat → Q} (hA : Ag nx0 H0 nx H)
    (hk : ∀ r H' nx', Ag nx0 H0 nx' H' → Sz m z r → WqR P pl X0 (k (i64 r) H' nx') nx0 H0 R) : WqR P pl X0 (callQ (.call f [v, i64 m] false none H nx) k p) nx0 H0 R :=
  Wq.callR hx (h m hm nx0 H0 H nx hA) fun u H' nx' hA' ⟨r, hu, hs⟩ => by subst hu; exact hk r H' nx' hA' hs
theorem q8 (H : T OB) (n : Nat) (h : n < 140737488355328) : rdBin P H .quo 3 true (some (i64 (n : Int))) (some (i64 8)) = some (i64 ((n / 8 : Nat) : Int)) := by
  rw [rdBin_quo _ _ _ _ _ (by decide)]
  have e1 : ((n : Int).tdiv 8) = ((n / 8 : Nat) : Int) := by rw [Int.tdiv_eq_ediv_of_nonneg (by omega)]; omega
  rw [e1, wrap_id (by omega)]
theorem cnt_72_a (p : Pat) (hs : sOk p.s) (hl : p.l.length < big) (ih : ∀ a, a ∈ p.l → Cnt 72 a.v a.z) : Cnt 72 p.v p.z := fun m hm nx0 H0 H nx hA => by
  have hs' : p.s.length < 140737488355328 := hs
  rw [q72]
  refine Wq.natF' hA fun hA => ?_
  simp only [stpF, cond_true, cond_false, eq_self, List.length_nil, Int.reduceEq, Int.reduceLT, Int.reduceLE, sttF, List.length_map, txt_size, q8 _ _ hs', show IntKind.i64.wrap (1 + ((p.s.length / 8 : Nat) : Int)) = 1 + ((p.s.length / 8 : Nat) : Int) from wrap_id (by omega)]
  have hz := p.z_eq
  refine Wq.eachW (p.l) (fun t (n : Int) => 1 ≤ n ∧ bnd m n 1 ∧ (n ≤ m → n + (patsZ t : Int) = (p.z : Int))) (fun i n H nx => .jump (l72_9 (i64 m) (eptrV p.v) (i64 n) (i64 (i : Int)) H nx)) (fun n0 H0' nx0' hI0 hA0 => ?_) (fun i0 a0 t0 n0 H0' nx0' hg0 hlt0 hI0 hA0 ih0 => ?_) (1 + ((p.s.length / 8 : Nat) : Int)) _ _ ?_ hA
  · refine Wq.jmp (q72_9 ..) (fun _ => rfl) ?_
    simp only [stpF, cond_true, cond_false, eq_self, List.length_nil, Int.reduceEq, Int.reduceLT, Int.reduceLE, sttF, List.length_map, not_lt_len]
    exact Wq.retR hA0 ⟨_, rfl, hI0.1, hI0.2.1, fun h => by have := hI0.2.2 h; simpa [patsZ] using this⟩
  · have hx0 : ((p.l).map Pat.v)[i0]? = some (Pat.v a0) := by simp [hg0]
    have hm0 := List.mem_of_getElem? hg0
    obtain ⟨g1, g2, g3⟩ := hI0
    refine Wq.jmp (q72_9 ..) (fun _ => rfl) ?_
    simp only [stpF, cond_true, cond_false, eq_self, List.length_nil, Int.reduceEq, Int.reduceLT, Int.reduceLE, sttF, List.length_map, is_lt_len hlt0, ix_42 hx0]
    refine Wq.ite (fun hle => ?_) (fun hle => ?_)
    · rw [show IntKind.i64.wrap (m - n0) = m - n0 from wrap_id (by omega)]
      refine Wq.cnt (ih a0 hm0) rfl ⟨by omega, by omega⟩ hA0 fun r H2 nx2 hA2 hs => ?_
      obtain ⟨k1, k2, k3⟩ := hs
      have hn := g2.1 (by omega)
      have hr := k2.1 (by omega)
      simp only [stpF, cond_true, cond_false, eq_self, List.length_nil, Int.reduceEq, Int.reduceLT, Int.reduceLE, show IntKind.i64.wrap (n0 + r) = n0 + r from wrap_id (by omega), wrap_succ (show i0 < 9223372036854775807 by have := sm_lt hl; omega)]
      refine ih0 (n0 + r) H2 nx2 ⟨by omega, ⟨fun _ => by omega, fun _ => by omega⟩, fun hle2 => ?_⟩ hA2
      have e1 := k3 (by omega)
      have e2 := g3 hle
      rw [patsZ, Int.natCast_add] at e2
      omega
    · exact Wq.retR hA0 ⟨_, rfl, g1, g2, fun h => absurd h hle⟩
  · refine ⟨by omega, ⟨fun _ => by omega, fun _ => by omega⟩, fun _ => by omega⟩
theorem cnt_72 (p : Pat) (h : p.ok) : Cnt 72 p.v p.z := by
  refine Pat.ind (p := fun p => p.ok → Cnt 72 p.v p.z) (fun p ih h => ?_) p h
  rw [Pat.ok_iff] at h
  exact cnt_72_a p h.2.1 h.2.2.1 fun a ha => ih a ha (h.2.2.2 a ha)
theorem cnt_126_a (p : TyS) (hs : sOk p.s) (hl : p.l.length < big) (ih : ∀ a, a ∈ p.l → Cnt 126 a.v a.z) : Cnt 126 p.v p.z := fun m hm nx0 H0 H nx hA => by
  have hs' : p.s.length < 140737488355328 := hs
  rw [q126]
  refine Wq.natF' hA fun hA => ?_
  simp only [stpF, cond_true, cond_false, eq_self, List.length_nil, Int.reduceEq, Int.reduceLT, Int.reduceLE, sttF, List.length_map, txt_size, q8 _ _ hs', show IntKind.i64.wrap (1 + ((p.s.length / 8 : Nat) : Int)) = 1 + ((p.s.length / 8 : Nat) : Int) from wrap_id (by omega)]
  have hz := p.z_eq
  refine Wq.eachW (p.l) (fun t (n : Int) => 1 ≤ n ∧ bnd m n 1 ∧ (n ≤ m → n + (tysZ t : Int) = (p.z : Int))) (fun i n H nx => .jump (l126_9 (i64 m) (eptrV p.v) (i64 n) (i64 (i : Int)) H nx)) (fun n0 H0' nx0' hI0 hA0 => ?_) (fun i0 a0 t0 n0 H0' nx0' hg0 hlt0 hI0 hA0 ih0 => ?_) (1 + ((p.s.length / 8 : Nat) : Int)) _ _ ?_ hA
  · refine Wq.jmp (q126_9 ..) (fun _ => rfl) ?_
    simp only [stpF, cond_true, cond_false, eq_self, List.length_nil, Int.reduceEq, Int.reduceLT, Int.reduceLE, sttF, List.length_map, not_lt_len]
    exact Wq.retR hA0 ⟨_, rfl, hI0.1, hI0.2.1, fun h => by have := hI0.2.2 h; simpa [tysZ] using this⟩
  · have hx0 : ((p.l).map TyS.v)[i0]? = some (TyS.v a0) := by simp [hg0]
    have hm0 := List.mem_of_getElem? hg0
    obtain ⟨g1, g2, g3⟩ := hI0
    refine Wq.jmp (q126_9 ..) (fun _ => rfl) ?_
    simp only [stpF, cond_true, cond_false, eq_self, List.length_nil, Int.reduceEq, Int.reduceLT, Int.reduceLE, sttF, List.length_map, is_lt_len hlt0, ix_53 hx0]
    refine Wq.ite (fun hle => ?_) (fun hle => ?_)
    · rw [show IntKind.i64.wrap (m - n0) = m - n0 from wrap_id (by omega)]
      refine Wq.cnt (ih a0 hm0) rfl ⟨by omega, by omega⟩ hA0 fun r H2 nx2 hA2 hs => ?_
      obtain ⟨k1, k2, k3⟩ := hs
      have hn := g2.1 (by omega)
      have hr := k2.1 (by omega)
      simp only [stpF, cond_true, cond_false, eq_self, List.length_nil, Int.reduceEq, Int.reduceLT, Int.reduceLE, show IntKind.i64.wrap (n0 + r) = n0 + r from wrap_id (by omega), wrap_succ (show i0 < 9223372036854775807 by have := sm_lt hl; omega)]
      refine ih0 (n0 + r) H2 nx2 ⟨by omega, ⟨fun _ => by omega, fun _ => by omega⟩, fun hle2 => ?_⟩ hA2
      have e1 := k3 (by omega)
      have e2 := g3 hle
      rw [tysZ, Int.natCast_add] at e2
      omega
    · exact Wq.retR hA0 ⟨_, rfl, g1, g2, fun h => absurd h hle⟩
  · refine ⟨by omega, ⟨fun _ => by omega, fun _ => by omega⟩, fun _ => by omega⟩
theorem cnt_126 (p : TyS) (h : p.ok) : Cnt 126 p.v p.z := by
  refine TyS.ind (p := fun p => p.ok → Cnt 126 p.v p.z) (fun p ih h => ?_) p h
  rw [TyS.ok_iff] at h
  exact cnt_126_a p h.1 h.2.1 fun a ha => ih a ha (h.2.2 a ha)
theorem cnt_74_a (p : Con) (hs : sOk p.s) (hl : p.arg.length < big) (ih : ∀ a, a ∈ p.arg → Cnt 126 a.v a.z) : Cnt 74 p.v p.z := fun m hm nx0 H0 H nx hA => by
  have hs' : p.s.length < 140737488355328 := hs
  rw [q74]
  refine Wq.natF' hA fun hA => ?_
  simp only [stpF, cond_true, cond_false, eq_self, List.length_nil, Int.reduceEq, Int.reduceLT, Int.reduceLE, sttF, List.length_map, txt_size, q8 _ _ hs', show IntKind.i64.wrap (1 + ((p.s.length / 8 : Nat) : Int)) = 1 + ((p.s.length / 8 : Nat) : Int) from wrap_id (by omega)]
  have hz := show p.z = 1 + p.s.length / 8 + tysZ p.arg from rfl
  refine Wq.eachW (p.arg) (fun t (n : Int) => 1 ≤ n ∧ bnd m n 1 ∧ (n ≤ m → n + (tysZ t : Int) = (p.z : Int))) (fun i n H nx => .jump (l74_9 (i64 m) (eptrV p.v) (i64 n) (i64 (i : Int)) H nx)) (fun n0 H0' nx0' hI0 hA0 => ?_) (fun i0 a0 t0 n0 H0' nx0' hg0 hlt0 hI0 hA0 ih0 => ?_) (1 + ((p.s.length / 8 : Nat) : Int)) _ _ ?_ hA
  · refine Wq.jmp (q74_9 ..) (fun _ => rfl) ?_
    simp only [stpF, cond_true, cond_false, eq_self, List.length_nil, Int.reduceEq, Int.reduceLT, Int.reduceLE, sttF, List.length_map, not_lt_len]
    exact Wq.retR hA0 ⟨_, rfl, hI0.1, hI0.2.1, fun h => by have := hI0.2.2 h; simpa [tysZ] using this⟩
  · have hx0 : ((p.arg).map TyS.v)[i0]? = some (TyS.v a0) := by simp [hg0]
    have hm0 := List.mem_of_getElem? hg0
    obtain ⟨g1, g2, g3⟩ := hI0
    refine Wq.jmp (q74_9 ..) (fun _ => rfl) ?_
    simp only [stpF, cond_true, cond_false, eq_self, List.length_nil, Int.reduceEq, Int.reduceLT, Int.reduceLE, sttF, List.length_map, is_lt_len hlt0, ix_53 hx0]
    refine Wq.ite (fun hle => ?_) (fun hle => ?_)
    · rw [show IntKind.i64.wrap (m - n0) = m - n0 from wrap_id (by omega)]
      refine Wq.cnt (ih a0 hm0) rfl ⟨by omega, by omega⟩ hA0 fun r H2 nx2 hA2 hs => ?_
      obtain ⟨k1, k2, k3⟩ := hs
      have hn := g2.1 (by omega)
      have hr := k2.1 (by omega)
      simp only [stpF, cond_true, cond_false, eq_self, List.length_nil, Int.reduceEq, Int.reduceLT, Int.reduceLE, show IntKind.i64.wrap (n0 + r) = n0 + r from wrap_id (by omega), wrap_succ (show i0 < 9223372036854775807 by have := sm_lt hl; omega)]
      refine ih0 (n0 + r) H2 nx2 ⟨by omega, ⟨fun _ => by omega, fun _ => by omega⟩, fun hle2 => ?_⟩ hA2
      have e1 := k3 (by omega)
      have e2 := g3 hle
      rw [tysZ, Int.natCast_add] at e2
      omega
    · exact Wq.retR hA0 ⟨_, rfl, g1, g2, fun h => absurd h hle⟩
  · refine ⟨by omega, ⟨fun _ => by omega, fun _ => by omega⟩, fun _ => by omega⟩
theorem cnt_74 (p : Con) (h : p.ok) : Cnt 74 p.v p.z := cnt_74_a p h.1 h.2.1 fun a ha => cnt_126 a (h.2.2 a ha)
def CntD (v : Value) (z : Nat) : Prop := ∀ (m : Int), rgd m → ∀ nx0 H0 H nx, Ag nx0 H0 nx H → WqR P pl X0 (evT P pl (.call 41 [v, i64 m] false none H nx)) nx0 H0 (SdR m z)
theorem cnt_73_a (e : Exp) (h : e.ok) (hE : ∀ a, a ∈ e.l → Cnt 73 a.v a.z) (hD : CntD (decsR e.d) (decsZ e.d)) : Cnt 73 e.v e.z := fun m hm nx0 H0 H nx hA => by
  rw [Exp.ok_iff] at h
  obtain ⟨hr, hs', ⟨hl, hl'⟩, ⟨hp, hp'⟩, hd, hd'⟩ := h
  have hs' : e.s.length < 140737488355328 := hs'
  have hz := e.z_eq
  rw [q73]
  refine Wq.natF' hA fun hA => ?_
  simp only [stpF, cond_true, cond_false, eq_self, List.length_nil, Int.reduceEq, Int.reduceLT, Int.reduceLE, sttF, List.length_map, txt_size, q8 _ _ hs', show IntKind.i64.wrap (1 + ((e.s.length / 8 : Nat) : Int)) = 1 + ((e.s.length / 8 : Nat) : Int) from wrap_id (by omega)]
  have LE : ∀ (n : Int) H1 nx1, 1 ≤ n → bnd m n 1 → (n ≤ m → n + (decsZ e.d : Int) = (e.z : Int)) → Ag nx0 H0 nx1 H1 →
      WqR P pl X0 (callQ (.call 41 [decsR e.d, i64 (IntKind.i64.wrap (m - n))] false none H1 nx1) (fun x H nx => optK (rdBin P H .add 3 false (some (i64 n)) (some x)) (fun y => .ret ⟨.ret y, false, H, nx⟩) .bad) panK) nx0 H0 (SzR m e.z) := by
    intro n H1 nx1 g1 g2 g3 hA1
    have hnb : n ≤ 1200000000000000000 := by
      by_cases h0 : 0 ≤ m
      · have := g2.1 h0; omega
      · have := g2.2 (by omega); omega
    rw [show IntKind.i64.wrap (m - n) = m - n from wrap_id (by omega)]
    refine Wq.callR rfl (hD (m - n) ⟨by omega, by omega⟩ nx0 H0 H1 nx1 hA1) fun u H2 nx2 hA2 hu => ?_
    obtain ⟨r, rfl, k1, k2, k3, k4⟩ := hu
    have hrb : r ≤ 1200000000000000000 := by
      by_cases h0 : 0 ≤ m - n
      · have := k2.1 h0; omega
      · have := k2.2 (by omega); omega
    simp only [stpF, cond_true, cond_false, eq_self, List.length_nil, Int.reduceEq, Int.reduceLT, Int.reduceLE, show IntKind.i64.wrap (n + r) = n + r from wrap_id (by omega)]
    refine Wq.retR hA2 ⟨n + r, rfl, by omega, ⟨fun h0 => ?_, fun h0 => ?_⟩, fun hle => ?_⟩
    · by_cases h1 : n ≤ m
      · have := k2.1 (by omega); omega
      · have := k3 (by omega); have := g2.1 h0; omega
    · have := k3 (by omega); have := g2.2 h0; omega
    · have := k4 (by omega); have := g3 (by omega); omega
  have L17 : ∀ (n : Int) H1 nx1, 1 ≤ n → bnd m n 1 → (n ≤ m → n + ((patsZ e.p : Int) + (decsZ e.d : Int)) = (e.z : Int)) → Ag nx0 H0 nx1 H1 → WqR P pl X0 (.jump (l73_17 (i64 m) (eptrV e.v) (i64 n) (i64 ((0 : Nat) : Int)) H1 nx1)) nx0 H0 (SzR m e.z) := by
    intro n H1 nx1 g1 g2 g3 hA1
    refine Wq.eachW (e.p) (fun t (n : Int) => 1 ≤ n ∧ bnd m n 1 ∧ (n ≤ m → n + ((patsZ t : Int) + (decsZ e.d : Int)) = (e.z : Int))) (fun i n H nx => .jump (l73_17 (i64 m) (eptrV e.v) (i64 n) (i64 (i : Int)) H nx)) (fun n0 H0' nx0' hI0 hA0 => ?_) (fun i0 a0 t0 n0 H0' nx0' hg0 hlt0 hI0 hA0 ih0 => ?_) (n) _ _ ?_ hA1
    · refine Wq.jmp (q73_17 ..) (fun _ => rfl) ?_
      simp only [stpF, cond_true, cond_false, eq_self, List.length_nil, Int.reduceEq, Int.reduceLT, Int.reduceLE, sttF, List.length_map, not_lt_len]
      exact LE n0 _ _ hI0.1 hI0.2.1 (fun h => by have := hI0.2.2 h; rw [patsZ] at this; omega) hA0
    · have hx0 : ((e.p).map Pat.v)[i0]? = some (Pat.v a0) := by simp [hg0]
      have hm0 := List.mem_of_getElem? hg0
      obtain ⟨g1, g2, g3⟩ := hI0
      refine Wq.jmp (q73_17 ..) (fun _ => rfl) ?_
      simp only [stpF, cond_true, cond_false, eq_self, List.length_nil, Int.reduceEq, Int.reduceLT, Int.reduceLE, sttF, List.length_map, is_lt_len hlt0, ix_42 hx0]
      refine Wq.ite (fun hle => ?_) (fun hle => ?_)
      · rw [show IntKind.i64.wrap (m - n0) = m - n0 from wrap_id (by omega)]
        refine Wq.cnt (cnt_72 a0 (hp' a0 hm0)) rfl ⟨by omega, by omega⟩ hA0 fun r H2 nx2 hA2 hs => ?_
        obtain ⟨k1, k2, k3⟩ := hs
        have hn := g2.1 (by omega)
        have hr := k2.1 (by omega)
        simp only [stpF, cond_true, cond_false, eq_self, List.length_nil, Int.reduceEq, Int.reduceLT, Int.reduceLE, show IntKind.i64.wrap (n0 + r) = n0 + r from wrap_id (by omega), wrap_succ (show i0 < 9223372036854775807 by have := sm_lt hp; omega)]
        refine ih0 (n0 + r) H2 nx2 ⟨by omega, ⟨fun _ => by omega, fun _ => by omega⟩, fun hle2 => ?_⟩ hA2
        have e1 := k3 (by omega)
        have e2 := g3 hle
        rw [patsZ, Int.natCast_add] at e2
        omega
      · exact LE n0 _ _ g1 g2 (fun h => absurd h hle) hA0
    · exact ⟨g1, g2, g3⟩
  refine Wq.eachW (e.l) (fun t (n : Int) => 1 ≤ n ∧ bnd m n 1 ∧ (n ≤ m → n + ((expsZ t : Int) + ((patsZ e.p : Int) + (decsZ e.d : Int))) = (e.z : Int))) (fun i n H nx => .jump (l73_9 (i64 m) (eptrV e.v) (i64 n) (i64 (i : Int)) H nx)) (fun n0 H0' nx0' hI0 hA0 => ?_) (fun i0 a0 t0 n0 H0' nx0' hg0 hlt0 hI0 hA0 ih0 => ?_) (1 + ((e.s.length / 8 : Nat) : Int)) _ _ ?_ hA
  · refine Wq.jmp (q73_9 ..) (fun _ => rfl) ?_
    simp only [stpF, cond_true, cond_false, eq_self, List.length_nil, Int.reduceEq, Int.reduceLT, Int.reduceLE, sttF, List.length_map, not_lt_len]
    exact L17 n0 _ _ hI0.1 hI0.2.1 (fun h => by have := hI0.2.2 h; rw [expsZ] at this; omega) hA0
  · have hx0 : ((e.l).map Exp.v)[i0]? = some (Exp.v a0) := by simp [hg0]
    have hm0 := List.mem_of_getElem? hg0
    obtain ⟨g1, g2, g3⟩ := hI0
    refine Wq.jmp (q73_9 ..) (fun _ => rfl) ?_
    simp only [stpF, cond_true, cond_false, eq_self, List.length_nil, Int.reduceEq, Int.reduceLT, Int.reduceLE, sttF, List.length_map, is_lt_len hlt0, ix_41 hx0]
    refine Wq.ite (fun hle => ?_) (fun hle => ?_)
    · rw [show IntKind.i64.wrap (m - n0) = m - n0 from wrap_id (by omega)]
      refine Wq.cnt (hE a0 hm0) rfl ⟨by omega, by omega⟩ hA0 fun r H2 nx2 hA2 hs => ?_
      obtain ⟨k1, k2, k3⟩ := hs
      have hn := g2.1 (by omega)
      have hr := k2.1 (by omega)
      simp only [stpF, cond_true, cond_false, eq_self, List.length_nil, Int.reduceEq, Int.reduceLT, Int.reduceLE, show IntKind.i64.wrap (n0 + r) = n0 + r from wrap_id (by omega), wrap_succ (show i0 < 9223372036854775807 by have := sm_lt hl; omega)]
      refine ih0 (n0 + r) H2 nx2 ⟨by omega, ⟨fun _ => by omega, fun _ => by omega⟩, fun hle2 => ?_⟩ hA2
      have e1 := k3 (by omega)
      have e2 := g3 hle
      rw [expsZ, Int.natCast_add] at e2
      omega
    · exact L17 n0 _ _ g1 g2 (fun h => absurd h hle) hA0
  · refine ⟨by omega, ⟨fun _ => by omega, fun _ => by omega⟩, fun _ => by omega⟩
end
end Go.Proofs.YthjhonhhbddhkaaGreatDoor
/- How many parts declarations have. -/
namespace Go.Proofs.YthjhonhhbddhkaaGreatDoor
open Go.Ev Go.RowKit
noncomputable section
set_option maxRecDepth 100000
set_option linter.unusedVariables false
set_option linter.unusedSimpArgs false
variable {nx0 : Nat} {H0 : T OB}
theorem cntD_41 (l : List Dec) (hl : l.length < big) (hok : ∀ d, d ∈ l → d.ok) (hE : ∀ d, d ∈ l → Cnt 73 d.e.v d.e.z) (hF : ∀ d, d ∈ l → ∀ f, f ∈ d.f → Cnt 73 f.b.v f.b.z) : CntD (decsR l) (decsZ l) := fun m hm nx0 H0 H nx hA => by
  rw [q41]
  by_cases hm0 : m < 0
  · cases l with
    | nil =>
      refine Wq.jmp (q41_9 ..) (fun _ => rfl) ?_
      simp only [stpF, cond_true, cond_false, eq_self, List.length_nil, Int.reduceEq, Int.reduceLT, Int.reduceLE, sttF, List.length_map]
      exact Wq.retR hA ⟨0, rfl, by omega, ⟨fun h => by omega, fun h => by omega⟩, fun _ => rfl, fun h => by omega⟩
    | cons d l =>
      have e1 : decide ((0 : Int) < ((d :: l).length : Int)) = true := by simp
      have e2 : decide ((0 : Int) ≤ m) = false := by simp; omega
      refine Wq.jmp (q41_9 ..) (fun _ => rfl) ?_
      simp only [stpF, cond_true, cond_false, eq_self, List.length_nil, Int.reduceEq, Int.reduceLT, Int.reduceLE, sttF, List.length_map, e1, e2]
      exact Wq.retR hA ⟨0, rfl, by omega, ⟨fun h => by omega, fun h => by omega⟩, fun _ => rfl, fun h => by omega⟩
  have hm5 := hm.2
  refine Wq.eachW (l) (fun t (n : Int) => 0 ≤ n ∧ n ≤ 8 * 35184372088832 + 2251799813685248 * m ∧ (n ≤ m → n + (decsZ t : Int) = (decsZ l : Int))) (fun i n H nx => .jump (l41_9 (decsR l) (i64 m) (i64 n) (i64 (i : Int)) H nx)) (fun n0 H0' nx0' hI0 hA0 => ?_) (fun i0 a0 t0 n0 H0' nx0' hg0 hlt0 hI0 hA0 ih0 => ?_) (0) _ _ ?_ hA
  · refine Wq.jmp (q41_9 ..) (fun _ => rfl) ?_
    simp only [stpF, cond_true, cond_false, eq_self, List.length_nil, Int.reduceEq, Int.reduceLT, Int.reduceLE, sttF, List.length_map, not_lt_len]
    exact Wq.retR hA0 ⟨n0, rfl, hI0.1, ⟨fun h => by have := hI0.2.1; omega, fun h => by omega⟩, fun h => by omega, fun h => by have := hI0.2.2 h; rw [decsZ] at this; omega⟩
  · have hx0 : ((l).map Dec.v)[i0]? = some (Dec.v a0) := by simp [hg0]
    have hm0' := List.mem_of_getElem? hg0
    obtain ⟨g1, g2, g3⟩ := hI0
    refine Wq.jmp (q41_9 ..) (fun _ => rfl) ?_
    simp only [stpF, cond_true, cond_false, eq_self, List.length_nil, Int.reduceEq, Int.reduceLT, Int.reduceLE, sttF, List.length_map, is_lt_len hlt0, ix_24 hx0]
    refine Wq.ite (fun hle => ?_) (fun hle => ?_)
    · have hok0 := (Dec.ok_iff a0).1 (hok a0 hm0')
      obtain ⟨hp, he, ⟨hfl, hf⟩, hx, hc⟩ := hok0
      have hzd := a0.z_eq
      have hzx : a0.x.z = strsZ a0.x.vars + a0.x.s.length / 8 + consZ a0.x.cons := rfl
      refine Wq.var zero_57 sz_57 rfl (nDec _) (oDec _) hA0 fun H2 nx2 hA2 => ?_
      rw [show IntKind.i64.wrap (n0 + 1) = n0 + 1 from wrap_id (by omega), show IntKind.i64.wrap (m - n0) = m - n0 from wrap_id (by omega)]
      refine Wq.cnt (cnt_72 a0.p hp) rfl ⟨by omega, by omega⟩ hA2 fun r1 H3 nx3 hA3 hs1 => ?_
      obtain ⟨k1, k2, k3⟩ := hs1
      have hr1 := k2.1 (by omega)
      simp only [stpF, cond_true, cond_false, eq_self, List.length_nil, Int.reduceEq, Int.reduceLT, Int.reduceLE, sttF, List.length_map, show IntKind.i64.wrap (n0 + 1 + r1) = n0 + 1 + r1 from wrap_id (by omega)]
      rw [show IntKind.i64.wrap (m - (n0 + 1 + r1)) = m - (n0 + 1 + r1) from wrap_id (by omega)]
      refine Wq.cnt (hE a0 hm0') rfl ⟨by omega, by omega⟩ hA3 fun r2 H4 nx4 hA4 hs2 => ?_
      obtain ⟨j1, j2, j3⟩ := hs2
      have hr2 : r2 ≤ 35184372088832 + 2251799813685248 * 500 := by
        by_cases h0 : 0 ≤ m - (n0 + 1 + r1)
        · have := j2.1 h0; omega
        · have := j2.2 (by omega); omega
      have hb2 : n0 + 1 + r1 + r2 ≤ 3 * 35184372088832 + 2251799813685248 * m := by
        by_cases h0 : 0 ≤ m - (n0 + 1 + r1)
        · have := j2.1 h0; omega
        · have := j2.2 (by omega); omega
      simp only [stpF, cond_true, cond_false, eq_self, List.length_nil, Int.reduceEq, Int.reduceLT, Int.reduceLE, show IntKind.i64.wrap (n0 + 1 + r1 + r2) = n0 + 1 + r1 + r2 from wrap_id (by omega)]
      have hz2 : n0 + 1 + r1 + r2 ≤ m → n0 + 1 + r1 + r2 + ((fnsZ a0.f : Int) + ((a0.x.z : Int) + ((a0.c.z : Int) + (decsZ t0 : Int)))) = (decsZ l : Int) := by
        intro h
        have e1 := k3 (by omega)
        have e2 := j3 (by omega)
        have e3 := g3 (by omega)
        rw [decsZ] at e3
        omega
      have L9 : ∀ (n : Int) H1 nx1, 0 ≤ n → n ≤ 8 * 35184372088832 + 2251799813685248 * m → (n ≤ m → n + (decsZ t0 : Int) = (decsZ l : Int)) → Ag nx0 H0 nx1 H1 → WqR P pl X0 (.jump (l41_9 (decsR l) (i64 m) (i64 n) (i64 (IntKind.i64.wrap ((i0 : Int) + 1))) H1 nx1)) nx0 H0 (SdR m (decsZ l)) := by
        intro n H1 nx1 q1 q2 q3 hA1
        rw [wrap_succ (show i0 < 9223372036854775807 by have := sm_lt hl; omega)]
        exact ih0 n H1 nx1 ⟨q1, q2, q3⟩ hA1
      have L47 : ∀ (n : Int) H1 nx1, 0 ≤ n → n ≤ 5 * 35184372088832 + 2251799813685248 * m → (n ≤ m → n + ((consZ a0.x.cons : Int) + (decsZ t0 : Int)) = (decsZ l : Int)) → Ag nx0 H0 nx1 H1 → WqR P pl X0 (.jump (l41_47 (decsR l) (i64 m) (i64 n) (i64 (i0 : Int)) (eptrV a0.v) (i64 ((0 : Nat) : Int)) H1 nx1)) nx0 H0 (SdR m (decsZ l)) := by
        intro n H1 nx1 q1 q2 q3 hA1
        refine Wq.eachW (a0.x.cons) (fun t (n : Int) => 0 ≤ n ∧ n ≤ 5 * 35184372088832 + 2251799813685248 * m ∧ (n ≤ m → n + ((consZ t : Int) + (decsZ t0 : Int)) = (decsZ l : Int))) (fun i n H nx => .jump (l41_47 (decsR l) (i64 m) (i64 n) (i64 (i0 : Int)) (eptrV a0.v) (i64 (i : Int)) H nx)) (fun n8 H8' nx8' hI8 hA8 => ?_) (fun i8 a8 t8 n8 H8' nx8' hg8 hlt8 hI8 hA8 ih8 => ?_) (n) _ _ ?_ hA1
        · refine Wq.jmp (q41_47 ..) (fun _ => rfl) ?_
          simp only [stpF, cond_true, cond_false, eq_self, List.length_nil, Int.reduceEq, Int.reduceLT, Int.reduceLE, sttF, List.length_map, not_lt_len]
          exact L9 n8 _ _ hI8.1 (by omega) (fun h => by have := hI8.2.2 h; rw [consZ] at this; omega) hA8
        · have hx8 : ((a0.x.cons).map Con.v)[i8]? = some (Con.v a8) := by simp [hg8]
          have hm8 := List.mem_of_getElem? hg8
          obtain ⟨p1, p2, p3⟩ := hI8
          refine Wq.jmp (q41_47 ..) (fun _ => rfl) ?_
          simp only [stpF, cond_true, cond_false, eq_self, List.length_nil, Int.reduceEq, Int.reduceLT, Int.reduceLE, sttF, List.length_map, is_lt_len hlt8, ix_50 hx8]
          refine Wq.ite (fun hle => ?_) (fun hle => ?_)
          · rw [show IntKind.i64.wrap (m - n8) = m - n8 from wrap_id (by omega)]
            refine Wq.cnt (cnt_74 a8 (hx.2.2.2 a8 hm8)) rfl ⟨by omega, by omega⟩ hA8 fun r H5 nx5 hA5 hs => ?_
            obtain ⟨k1, k2, k3⟩ := hs
            have hr := k2.1 (by omega)
            simp only [stpF, cond_true, cond_false, eq_self, List.length_nil, Int.reduceEq, Int.reduceLT, Int.reduceLE, show IntKind.i64.wrap (n8 + r) = n8 + r from wrap_id (by omega), wrap_succ (show i8 < 9223372036854775807 by have := sm_lt hx.2.2.1; omega)]
            refine ih8 (n8 + r) H5 nx5 ⟨by omega, by omega, fun hle2 => ?_⟩ hA5
            have e1 := k3 (by omega)
            have e2 := p3 hle
            rw [consZ, Int.natCast_add] at e2
            omega
          · exact L9 n8 _ _ p1 (by omega) (fun h => absurd h hle) hA8
        · exact ⟨q1, q2, q3⟩
      have L37e : ∀ (n : Int) H1 nx1, 0 ≤ n → n ≤ 3 * 35184372088832 + 2251799813685248 * m → (n ≤ m → n + (((a0.x.s.length / 8 : Nat) : Int) + ((consZ a0.x.cons : Int) + ((a0.c.z : Int) + (decsZ t0 : Int)))) = (decsZ l : Int)) → Ag nx0 H0 nx1 H1 →
          WqR P pl X0 (callQ (.call 74 [a0.c.v, i64 (IntKind.i64.wrap (m - n))] false none H1 nx1) (fun x H nx => optK (rdBin P H .add 3 false (some (i64 (IntKind.i64.wrap (n + ((a0.x.s.length / 8 : Nat) : Int))))) (some x)) (fun y => .jump (l41_47 (decsR l) (i64 m) y (i64 (i0 : Int)) (eptrV a0.v) (i64 ((0 : Nat) : Int)) H nx)) .bad) panK) nx0 H0 (SdR m (decsZ l)) := by
        intro n H1 nx1 q1 q2 q3 hA1
        have hxs : a0.x.s.length < 140737488355328 := hx.2.1
        rw [show IntKind.i64.wrap (m - n) = m - n from wrap_id (by omega), show IntKind.i64.wrap (n + ((a0.x.s.length / 8 : Nat) : Int)) = n + ((a0.x.s.length / 8 : Nat) : Int) from wrap_id (by omega)]
        refine Wq.cnt (cnt_74 a0.c hc) rfl ⟨by omega, by omega⟩ hA1 fun r H5 nx5 hA5 hs => ?_
        obtain ⟨k1, k2, k3⟩ := hs
        have hrb : r ≤ 35184372088832 + 2251799813685248 * 500 := by
          by_cases h0 : 0 ≤ m - n
          · have := k2.1 h0; omega
          · have := k2.2 (by omega); omega
        simp only [stpF, cond_true, cond_false, eq_self, List.length_nil, Int.reduceEq, Int.reduceLT, Int.reduceLE, show IntKind.i64.wrap (n + ((a0.x.s.length / 8 : Nat) : Int) + r) = n + ((a0.x.s.length / 8 : Nat) : Int) + r from wrap_id (by omega)]
        refine L47 _ _ _ (by omega) ?_ (fun h => ?_) hA5
        · by_cases h0 : 0 ≤ m - n
          · have := k2.1 h0; omega
          · have := k2.2 (by omega); omega
        · have e1 := k3 (by omega)
          have e2 := q3 (by omega)
          omega
      have L37 : ∀ (n : Int) H1 nx1, 0 ≤ n → n ≤ 3 * 35184372088832 + 2251799813685248 * m → (n ≤ m → n + ((a0.x.z : Int) + ((a0.c.z : Int) + (decsZ t0 : Int))) = (decsZ l : Int)) → Ag nx0 H0 nx1 H1 → WqR P pl X0 (.jump (l41_37 (decsR l) (i64 m) (i64 n) (i64 (i0 : Int)) (eptrV a0.v) (i64 ((0 : Nat) : Int)) H1 nx1)) nx0 H0 (SdR m (decsZ l)) := by
        intro n H1 nx1 q1 q2 q3 hA1
        have hxs : a0.x.s.length < 140737488355328 := hx.2.1
        refine Wq.eachW (a0.x.vars) (fun t (n : Int) => 0 ≤ n ∧ n ≤ 3 * 35184372088832 + 2251799813685248 * m ∧ (n ≤ m → n + ((strsZ t : Int) + (((a0.x.s.length / 8 : Nat) : Int) + ((consZ a0.x.cons : Int) + ((a0.c.z : Int) + (decsZ t0 : Int))))) = (decsZ l : Int))) (fun i n H nx => .jump (l41_37 (decsR l) (i64 m) (i64 n) (i64 (i0 : Int)) (eptrV a0.v) (i64 (i : Int)) H nx)) (fun n8 H8' nx8' hI8 hA8 => ?_) (fun i8 a8 t8 n8 H8' nx8' hg8 hlt8 hI8 hA8 ih8 => ?_) (n) _ _ ?_ hA1
        · refine Wq.jmp (q41_37 ..) (fun _ => rfl) ?_
          simp only [stpF, cond_true, cond_false, eq_self, List.length_nil, Int.reduceEq, Int.reduceLT, Int.reduceLE, sttF, List.length_map, not_lt_len, txt_size, q8 _ _ hxs, vEq_self, Bool.and_self, bK_true]
          exact L37e n8 _ _ hI8.1 hI8.2.1 (fun h => by have := hI8.2.2 h; rw [strsZ] at this; omega) hA8
        · have hx8 : ((a0.x.vars).map txt)[i8]? = some (txt a8) := by simp [hg8]
          have hm8 := List.mem_of_getElem? hg8
          obtain ⟨p1, p2, p3⟩ := hI8
          refine Wq.jmp (q41_37 ..) (fun _ => rfl) ?_
          simp only [stpF, cond_true, cond_false, eq_self, List.length_nil, Int.reduceEq, Int.reduceLT, Int.reduceLE, sttF, List.length_map, is_lt_len hlt8, ix_49 hx8, txt_size, q8 _ _ hxs, vEq_self, Bool.and_self, bK_true]
          refine Wq.ite (fun hle => ?_) (fun hle => ?_)
          · have h7 := hx.1.2 a8 hm8
            have h8 : a8.length < 140737488355328 := h7
            simp only [stpF, cond_true, cond_false, eq_self, List.length_nil, Int.reduceEq, Int.reduceLT, Int.reduceLE, txt_size, q8 _ _ h8]
            rw [show IntKind.i64.wrap (n8 + 1) = n8 + 1 from wrap_id (by omega)]
            rw [show IntKind.i64.wrap (n8 + 1 + ((a8.length / 8 : Nat) : Int)) = n8 + 1 + ((a8.length / 8 : Nat) : Int) from wrap_id (by omega), wrap_succ (show i8 < 9223372036854775807 by have := sm_lt hx.1.1; omega)]
            refine ih8 _ _ _ ⟨by omega, by omega, fun hle2 => ?_⟩ hA8
            have e2 := p3 hle
            rw [strsZ] at e2
            omega
          · exact L37e n8 _ _ p1 p2 (fun h => absurd h hle) hA8
        · exact ⟨q1, q2, fun h => by have := q3 h; omega⟩
      refine Wq.eachW (a0.f) (fun t (n : Int) => 0 ≤ n ∧ n ≤ 3 * 35184372088832 + 2251799813685248 * m ∧ (n ≤ m → n + ((fnsZ t : Int) + ((a0.x.z : Int) + ((a0.c.z : Int) + (decsZ t0 : Int)))) = (decsZ l : Int))) (fun i n H nx => .jump (l41_21 (decsR l) (i64 m) (i64 n) (i64 (i0 : Int)) (eptrV a0.v) (i64 (i : Int)) H nx)) (fun n8 H8' nx8' hI8 hA8 => ?_) (fun i8 a8 t8 n8 H8' nx8' hg8 hlt8 hI8 hA8 ih8 => ?_) (n0 + 1 + r1 + r2) _ _ ?_ hA4
      · refine Wq.jmp (q41_21 ..) (fun _ => rfl) ?_
        simp only [stpF, cond_true, cond_false, eq_self, List.length_nil, Int.reduceEq, Int.reduceLT, Int.reduceLE, sttF, List.length_map, not_lt_len]
        exact L37 n8 _ _ hI8.1 hI8.2.1 (fun h => by have := hI8.2.2 h; rw [fnsZ] at this; omega) hA8
      · have hx8 : ((a0.f).map Fn.v)[i8]? = some (Fn.v a8) := by simp [hg8]
        have hm8 := List.mem_of_getElem? hg8
        obtain ⟨p1, p2, p3⟩ := hI8
        refine Wq.jmp (q41_21 ..) (fun _ => rfl) ?_
        simp only [stpF, cond_true, cond_false, eq_self, List.length_nil, Int.reduceEq, Int.reduceLT, Int.reduceLE, sttF, List.length_map, is_lt_len hlt8, ix_48 hx8]
        refine Wq.ite (fun hle => ?_) (fun hle => ?_)
        · have hfa := (Fn.ok_iff a8).1 (hf a8 hm8)
          have h8 : a8.s.length < 140737488355328 := hfa.1
          have hzf := a8.z_eq
          simp only [stpF, cond_true, cond_false, eq_self, List.length_nil, Int.reduceEq, Int.reduceLT, Int.reduceLE, txt_size, q8 _ _ h8]
          rw [show IntKind.i64.wrap (n8 + 1) = n8 + 1 from wrap_id (by omega), show IntKind.i64.wrap (m - n8) = m - n8 from wrap_id (by omega)]
          rw [show IntKind.i64.wrap (n8 + 1 + ((a8.s.length / 8 : Nat) : Int)) = n8 + 1 + ((a8.s.length / 8 : Nat) : Int) from wrap_id (by omega)]
          refine Wq.cnt (hF a0 hm0' a8 hm8) rfl ⟨by omega, by omega⟩ hA8 fun r H5 nx5 hA5 hs => ?_
          obtain ⟨k1, k2, k3⟩ := hs
          have hr := k2.1 (by omega)
          simp only [stpF, cond_true, cond_false, eq_self, List.length_nil, Int.reduceEq, Int.reduceLT, Int.reduceLE, show IntKind.i64.wrap (n8 + 1 + ((a8.s.length / 8 : Nat) : Int) + r) = n8 + 1 + ((a8.s.length / 8 : Nat) : Int) + r from wrap_id (by omega), vEq_self, Bool.and_self, bK_true]
          have hz8 : n8 + 1 + ((a8.s.length / 8 : Nat) : Int) + r ≤ m → n8 + 1 + ((a8.s.length / 8 : Nat) : Int) + r + ((patsZ a8.p : Int) + ((fnsZ t8 : Int) + ((a0.x.z : Int) + ((a0.c.z : Int) + (decsZ t0 : Int))))) = (decsZ l : Int) := by
            intro h
            have e1 := k3 (by omega)
            have e2 := p3 hle
            rw [fnsZ] at e2
            omega
          refine Wq.eachW (a8.p) (fun t (n : Int) => 0 ≤ n ∧ n ≤ 3 * 35184372088832 + 2251799813685248 * m ∧ (n ≤ m → n + ((patsZ t : Int) + ((fnsZ t8 : Int) + ((a0.x.z : Int) + ((a0.c.z : Int) + (decsZ t0 : Int))))) = (decsZ l : Int))) (fun i n H nx => .jump (l41_29 (decsR l) (i64 m) (i64 n) (i64 (i0 : Int)) (eptrV a0.v) (i64 (i8 : Int)) (i64 (i : Int)) H nx)) (fun n9 H9' nx9' hI9 hA9 => ?_) (fun i9 a9 t9 n9 H9' nx9' hg9 hlt9 hI9 hA9 ih9 => ?_) (n8 + 1 + ((a8.s.length / 8 : Nat) : Int) + r) _ _ ?_ hA5
          · refine Wq.jmp (q41_29 ..) (fun _ => rfl) ?_
            simp only [stpF, cond_true, cond_false, eq_self, List.length_nil, Int.reduceEq, Int.reduceLT, Int.reduceLE, sttF, List.length_map, not_lt_len, ix_48 hx8]
            simp only [stpF, cond_true, cond_false, eq_self, List.length_nil, Int.reduceEq, Int.reduceLT, Int.reduceLE, wrap_succ (show i8 < 9223372036854775807 by have := sm_lt hfl; omega)]
            exact ih8 n9 _ _ ⟨hI9.1, hI9.2.1, fun h => by have := hI9.2.2 h; rw [patsZ] at this; omega⟩ hA9
          · have hx9 : ((a8.p).map Pat.v)[i9]? = some (Pat.v a9) := by simp [hg9]
            have hm9 := List.mem_of_getElem? hg9
            obtain ⟨o1, o2, o3⟩ := hI9
            refine Wq.jmp (q41_29 ..) (fun _ => rfl) ?_
            simp only [stpF, cond_true, cond_false, eq_self, List.length_nil, Int.reduceEq, Int.reduceLT, Int.reduceLE, sttF, List.length_map, is_lt_len hlt9, ix_42 hx9, ix_48 hx8]
            refine Wq.ite (fun hle => ?_) (fun hle => ?_)
            · rw [show IntKind.i64.wrap (m - n9) = m - n9 from wrap_id (by omega)]
              refine Wq.cnt (cnt_72 a9 (hfa.2.1.2 a9 hm9)) rfl ⟨by omega, by omega⟩ hA9 fun r H6 nx6 hA6 hs => ?_
              obtain ⟨k1, k2, k3⟩ := hs
              have hr := k2.1 (by omega)
              simp only [stpF, cond_true, cond_false, eq_self, List.length_nil, Int.reduceEq, Int.reduceLT, Int.reduceLE, show IntKind.i64.wrap (n9 + r) = n9 + r from wrap_id (by omega), wrap_succ (show i9 < 9223372036854775807 by have := sm_lt hfa.2.1.1; omega)]
              refine ih9 (n9 + r) H6 nx6 ⟨by omega, by omega, fun hle2 => ?_⟩ hA6
              have e1 := k3 (by omega)
              have e2 := o3 hle
              rw [patsZ, Int.natCast_add] at e2
              omega
            · simp only [stpF, cond_true, cond_false, eq_self, List.length_nil, Int.reduceEq, Int.reduceLT, Int.reduceLE, wrap_succ (show i8 < 9223372036854775807 by have := sm_lt hfl; omega)]
              exact ih8 n9 _ _ ⟨o1, o2, fun h => absurd h hle⟩ hA9
          · exact ⟨by omega, by omega, hz8⟩
        · exact L37 n8 _ _ p1 p2 (fun h => absurd h hle) hA8
      · exact ⟨by omega, hb2, hz2⟩
    · exact Wq.retR hA0 ⟨n0, rfl, by omega, ⟨fun h => by omega, fun h => by omega⟩, fun h => by omega, fun h => by omega⟩
  · exact ⟨by omega, by omega, fun _ => by omega⟩
theorem both_73 : (∀ e : Exp, e.ok → Cnt 73 e.v e.z) ∧ ∀ d : Dec, d.ok → Cnt 73 d.e.v d.e.z ∧ ∀ f, f ∈ d.f → Cnt 73 f.b.v f.b.z := by
  have A : ∀ e : Exp, (∀ c, c ∈ e.l → c.ok → Cnt 73 c.v c.z) → (∀ d, d ∈ e.d → d.ok → Cnt 73 d.e.v d.e.z ∧ ∀ f, f ∈ d.f → Cnt 73 f.b.v f.b.z) → e.ok → Cnt 73 e.v e.z := fun e h1 h2 h => by
    have h' := (Exp.ok_iff e).1 h
    exact cnt_73_a e h (fun a ha => h1 a ha (h'.2.2.1.2 a ha)) (cntD_41 e.d h'.2.2.2.2.1 h'.2.2.2.2.2 (fun d hd => (h2 d hd (h'.2.2.2.2.2 d hd)).1) fun d hd => (h2 d hd (h'.2.2.2.2.2 d hd)).2)
  have B : ∀ d : Dec, (d.e.ok → Cnt 73 d.e.v d.e.z) → (∀ f, f ∈ d.f → f.b.ok → Cnt 73 f.b.v f.b.z) → d.ok → Cnt 73 d.e.v d.e.z ∧ ∀ f, f ∈ d.f → Cnt 73 f.b.v f.b.z := fun d h1 h2 h => by
    have h' := (Dec.ok_iff d).1 h
    exact ⟨h1 h'.2.1, fun f hf => h2 f hf ((Fn.ok_iff f).1 (h'.2.2.1.2 f hf)).2.2⟩
  exact ⟨Exp.ind A B, Dec.ind A B⟩
/-- Declarations that have no more parts than are looked at. -/
theorem cntD (l : List Dec) (hl : l.length < big) (h : ∀ d, d ∈ l → d.ok) : CntD (decsR l) (decsZ l) := cntD_41 l hl h (fun d hd => (both_73.2 d (h d hd)).1) fun d hd => (both_73.2 d (h d hd)).2
end
end Go.Proofs.YthjhonhhbddhkaaGreatDoor
/- The printer: what it holds, and what is put. -/
namespace Go.Proofs.YthjhonhhbddhkaaGreatDoor
open Go.Ev Go.RowKit
noncomputable section
set_option maxRecDepth 100000
set_option linter.unusedVariables false
set_option linter.unusedSimpArgs false
variable {nx0 : Nat} {H0 : T OB}
abbrev ptr (b : Nat) : Value := .pointer (some ⟨b, 0, none⟩)
abbrev tokC (l : List Tok) : List Value := l.flatMap Tok.c
theorem tokC_len (l : List Tok) : (tokC l).length = l.length * 4 := by
  induction l with
  | nil => rfl
  | cons a l ih =>
    show (a.c ++ tokC l).length = _
    rw [List.length_append, ih, List.length_cons]
    show 4 + l.length * 4 = (l.length + 1) * 4
    omega
/-- A row of tokens that grows: nil, or a block of its own. -/
def TS (nx0 : Nat) (H : T OB) (nx : Nat) (l : List Tok) (sl : Value) : Prop := (l = [] ∧ sl = .slice none 0 0) ∨ ∃ b, nx0 ≤ b ∧ b < nx ∧ IsB H b (tokC l) 31 ∧ sl = .slice (some ⟨b, 0, none⟩) l.length unk
/-- The printer. -/
def Out (fr : Nat → List Value → TypeId → Prop) (bp nx0 : Nat) (H : T OB) (nx : Nat) (l : List Tok) (b : Bool) : Prop := nx0 ≤ bp ∧ bp < nx ∧ ∃ sl, IsB H bp [sl, .bool b] 116 ∧ TS nx0 H nx l sl ∧ (∀ c o n u, sl = .slice (some ⟨c, o, none⟩) n u → c ≠ bp) ∧ ∀ x l e, fr x l e → x < nx ∧ IsB H x l e ∧ x ≠ bp ∧ ∀ c o n u, sl = .slice (some ⟨c, o, none⟩) n u → c ≠ x
theorem Out.keep {fr : Nat → List Value → TypeId → Prop} {bp nx nx' : Nat} {H H' : T OB} {l : List Tok} {b : Bool} (h : Out fr bp nx0 H nx l b) (hn : nx ≤ nx') (hk : ∀ b l e, b < nx → IsB H b l e → IsB H' b l e) : Out fr bp nx0 H' nx' l b := by
  obtain ⟨h1, h2, sl, h3, h4, h5, h6⟩ := h
  refine ⟨h1, by omega, sl, hk _ _ _ h2 h3, ?_, h5, fun x l e hx => by
    obtain ⟨a, b, c⟩ := h6 x l e hx
    exact ⟨by omega, hk _ _ _ a b, c⟩⟩
  rcases h4 with h | ⟨c, q1, q2, q3, q4⟩
  · exact .inl h
  · exact .inr ⟨c, q1, by omega, hk _ _ _ q2 q3, q4⟩
/-- What has come of a row of tokens and a mark, so many having been put at most. -/
def Go (l0 : List Tok) (b0 : Bool) (ok : Bool) (ts : List Tok) (n : Nat) (l : List Tok) (b : Bool) : Prop := b = (b0 || !ok) ∧ (b = false → l = l0 ++ ts) ∧ l.length ≤ l0.length + n
theorem Go.start (l : List Tok) (b : Bool) : Go l b true [] 0 l b := ⟨by simp, fun _ => by simp, by omega⟩
theorem Go.trans {l0 l1 l2 ts1 ts2 : List Tok} {b0 b1 b2 ok1 ok2 : Bool} {n1 n2 : Nat} (h1 : Go l0 b0 ok1 ts1 n1 l1 b1) (h2 : Go l1 b1 ok2 ts2 n2 l2 b2) : Go l0 b0 (ok1 && ok2) (ts1 ++ ts2) (n1 + n2) l2 b2 := by
  obtain ⟨a1, a2, a3⟩ := h1
  obtain ⟨c1, c2, c3⟩ := h2
  refine ⟨by rw [c1, a1]; cases b0 <;> cases ok1 <;> cases ok2 <;> rfl, fun h => ?_, by omega⟩
  rw [c2 h]
  have : b1 = false := by rw [h] at c1; cases b1 with
    | false => rfl
    | true => simp at c1
  rw [a2 this, List.append_assoc]
def St (fr : Nat → List Value → TypeId → Prop) (bp nx0 : Nat) (H0 : T OB) (l0 : List Tok) (b0 : Bool) (ok : Bool) (ts : List Tok) (n : Nat) (H : T OB) (nx : Nat) : Prop := TabIn nx0 H0 ∧ Ag nx0 H0 nx H ∧ ∃ l b, Out fr bp nx0 H nx l b ∧ Go l0 b0 ok ts n l b
variable {fr : Nat → List Value → TypeId → Prop} {bp : Nat} {l0 : List Tok} {b0 : Bool}
theorem St.keep {ok : Bool} {ts : List Tok} {n nx nx' : Nat} {H H' : T OB} (h : St fr bp nx0 H0 l0 b0 ok ts n H nx) (hA : Ag nx H nx' H') : St fr bp nx0 H0 l0 b0 ok ts n H' nx' := by
  obtain ⟨h0, h1, l, b, h2, h3⟩ := h
  exact ⟨h0, h1.trans hA, l, b, h2.keep hA.1 fun b l e hb hi => hi.ag hA hb, h3⟩
theorem St.keep' {ok : Bool} {ts : List Tok} {n nx nx' : Nat} {H H' : T OB} (h : St fr bp nx0 H0 l0 b0 ok ts n H nx) (hA : Ag nx0 H0 nx' H') (hn : nx ≤ nx') (hk : ∀ b l e, b < nx → IsB H b l e → IsB H' b l e) : St fr bp nx0 H0 l0 b0 ok ts n H' nx' := by
  obtain ⟨h0, h1, l, b, h2, h3⟩ := h
  exact ⟨h0, hA, l, b, h2.keep hn hk, h3⟩
theorem St.mono {ok ok' : Bool} {ts ts' : List Tok} {n n' nx : Nat} {H : T OB} (h : St fr bp nx0 H0 l0 b0 ok ts n H nx) (e : ok = ok') (et : ok' = true → ts = ts') (en : n ≤ n') : St fr bp nx0 H0 l0 b0 ok' ts' n' H nx := by
  obtain ⟨h0, h1, l, b, h2, h3, h4, h5⟩ := h
  refine ⟨h0, h1, l, b, h2, by rw [h3, e], fun q => ?_, by omega⟩
  have : ok' = true := by
    rw [q, e] at h3
    cases ok' with
    | true => rfl
    | false => cases b0 <;> cases h3
  rw [h4 q, et this]
/-- What was bad stays bad. -/
theorem St.skip {ok ok' : Bool} {ts ts' : List Tok} {n n' nx : Nat} {H : T OB} (h : St fr bp nx0 H0 l0 b0 ok ts n H nx) (hb : (b0 || !ok) = true) (e : ok = false → ok' = false) (en : n ≤ n') : St fr bp nx0 H0 l0 b0 ok' ts' n' H nx := by
  obtain ⟨h0, h1, l, b, h2, h3, h4, h5⟩ := h
  refine ⟨h0, h1, l, b, h2, ?_, fun q => ?_, by omega⟩
  · rw [h3, hb]
    cases b0 with
    | true => rfl
    | false => rw [e (by simpa using hb)]; rfl
  · rw [h3, hb] at q; cases q
abbrev Done (fr : Nat → List Value → TypeId → Prop) (bp nx0 : Nat) (H0 : T OB) (l0 : List Tok) (b0 : Bool) (ok : Bool) (ts : List Tok) (n : Nat) : Value → T OB → Nat → Prop := fun u H nx => u = .tuple ⟨[]⟩ ∧ St fr bp nx0 H0 l0 b0 ok ts n H nx
theorem Wq.done {ok ok' : Bool} {ts ts' : List Tok} {n n' nx : Nat} {H : T OB} (h : St fr bp nx0 H0 l0 b0 ok ts n H nx) (e : ok = ok') (et : ok' = true → ts = ts') (en : n ≤ n') : WqR P pl X0 (.ret ⟨.ret (.tuple ⟨[]⟩), false, H, nx⟩) nx0 H0 (Done fr bp nx0 H0 l0 b0 ok' ts' n') := Wq.retR h.2.1 ⟨rfl, h.mono e et en⟩
/-- A function that puts. -/
def Put (f : FuncId) (args : List Value) (ok : Bool) (ts : List Tok) (n : Nat) : Prop := ∀ fr bp nx0 H0 l0 b0 H nx, l0.length + n ≤ 100000 → St fr bp nx0 H0 l0 b0 true [] 0 H nx → WqR P pl X0 (evT P pl (.call f (ptr bp :: args) false none H nx)) nx0 H0 (Done fr bp nx0 H0 l0 b0 ok ts n)
variable {ok : Bool} {ts : List Tok} {n nx : Nat} {H : T OB} {R : Value → T OB → Nat → Prop}
theorem Wq.putS {f : FuncId} {args : List Value} {ok' : Bool} {ts' : List Tok} {n' : Nat} {k p : Value → T OB → Nat → Q} (h : Put f args ok' ts' n') (hx : X0 f (ptr bp :: args) = none) (hS : St fr bp nx0 H0 l0 b0 ok ts n H nx) (hl : l0.length + (n + n') ≤ 100000)
    (hk : ∀ u H' nx', St fr bp nx0 H0 l0 b0 (ok && ok') (ts ++ ts') (n + n') H' nx' → WqR P pl X0 (k u H' nx') nx0 H0 R) : WqR P pl X0 (callQ (.call f (ptr bp :: args) false none H nx) k p) nx0 H0 R := by
  obtain ⟨h0, h1, l, b, h2, h3⟩ := hS
  refine Wq.callR hx (h fr bp nx0 H0 l b H nx (by have := h3.2.2; omega) ⟨h0, h1, l, b, h2, .start l b⟩) fun u H' nx' hA hu => ?_
  obtain ⟨_, q0, q1, l', b', q2, q3⟩ := hu
  exact hk u H' nx' ⟨q0, q1, l', b', q2, h3.trans q3⟩
theorem Wq.callS {f : FuncId} {args : List Value} {u : Value} {k p : Value → T OB → Nat → Q} (h : P0 f args u) (hS : St fr bp nx0 H0 l0 b0 ok ts n H nx) (hk : ∀ H' nx', St fr bp nx0 H0 l0 b0 ok ts n H' nx' → WqR P pl X0 (k u H' nx') nx0 H0 R) : WqR P pl X0 (callQ (.call f args false none H nx) k p) nx0 H0 R :=
  Wq.callB h hS.2.1 fun H' nx' hA hn hkp => hk H' nx' (hS.keep' hA hn hkp)
theorem Wq.callTS {f : FuncId} {args : List Value} {u : Value} {k p : Value → T OB → Nat → Q} (h : PT f args u) (hS : St fr bp nx0 H0 l0 b0 ok ts n H nx) (hk : ∀ H' nx', St fr bp nx0 H0 l0 b0 ok ts n H' nx' → WqR P pl X0 (k u H' nx') nx0 H0 R) : WqR P pl X0 (callQ (.call f args false none H nx) k p) nx0 H0 R := by
  obtain ⟨H1, nx1, h1, h2⟩ := h H nx (hS.1.ag hS.2.1)
  obtain ⟨v, H2, nx2, h3, hR, h4⟩ := hk H1 nx1 (hS.keep h1)
  refine ⟨v, H2, nx2, h3, hR, ?_⟩
  show optK (F P pl X0 (.call f args false none H nx)) (fun r => (match r.o with | .ret v => k v r.H r.nx | .pan v => p v r.H r.nx : Q).run (F P pl X0)) none = _
  rw [h2]
  exact h4
theorem St.succ (h : St fr bp nx0 H0 l0 b0 ok ts n H nx) : St fr bp nx0 H0 l0 b0 ok ts n H (nx + 1) := h.keep (Ag.refl nx H).succ
theorem Wq.natS {k : Nat → Q} (h : St fr bp nx0 H0 l0 b0 ok ts n H nx) (hk : St fr bp nx0 H0 l0 b0 ok ts n H (nx + 1) → WqR P pl X0 (k (nx + 1)) nx0 H0 R) : WqR P pl X0 (Ev.natF (Nat.succ nx) k) nx0 H0 R := Wq.natF (hk h.succ)
theorem Wq.varS {e t : TypeId} {l : List Value} {s : Nat} {x : Value} {k : T OB → Nat → Q} (hz : zeroC P e = some l) (hs : szOf P t = some s) (hl : l.length = s) (hx : x.cells.toList.length = s) (hone : x.cells.toList.all oneCell = true)
    (h : St fr bp nx0 H0 l0 b0 ok ts n H nx) (hk : ∀ H' nx', St fr bp nx0 H0 l0 b0 ok ts n H' nx' → WqR P pl X0 (k H' nx') nx0 H0 R) : WqR P pl X0 (effQ (efAlloc P H nx e) fun p H nx => frSt P H nx t (some p) x k) nx0 H0 R :=
  Wq.varB hz hs hl hx hone h.2.1 fun H' nx' hA hn hkp => hk H' nx' (h.keep' hA hn hkp)
/-- The mark. -/
theorem St.bad (h : St fr bp nx0 H0 l0 b0 ok ts n H nx) : rdLoad P H 4 (some (.pointer (some ⟨bp, 1, none⟩))) = some (.bool (b0 || !ok)) := by
  obtain ⟨_, _, l, b, ⟨_, _, sl, h1, _, _⟩, h3, _⟩ := h
  rw [rdLoad_cell h1 agg_4 rfl, h3]
theorem sm_31 {n : Nat} (h : n ≤ 1048576) : apSmall P 31 4 n = true := by
  have : apSmall P 31 4 n = (Nat.ble n 1048576 && true) := by kernel_rfl
  rw [this, Nat.ble_eq_true_of_le h]; rfl
theorem fl_31 (a b c d : Value) : Instr.fill (fun i => some (i * 4, 4)) (zeroRow [Value.int .i64 0, Value.string ⟨⟨[]⟩⟩, Value.int .i64 0, Value.int .i64 0] (1 * 4)) [(0, .agg ⟨[a, b, c, d]⟩)] = some ⟨[a, b, c, d]⟩ := by kernel_rfl
theorem Out.mark {l : List Tok} {b : Bool} (h : Out fr bp nx0 H nx l b) (hA : Ag nx0 H0 nx H) (c : Bool) {k : Value → T OB → Nat → Q} (hk : ∀ H', Out fr bp nx0 H' nx l c → Ag nx0 H0 nx H' → WqR P pl X0 (k undef H' nx) nx0 H0 R) :
    WqR P pl X0 (effQ (efStore P H nx 4 (some (.pointer (some ⟨bp, 1, none⟩))) (some (.bool c))) k) nx0 H0 R := by
  obtain ⟨h1, h2, sl, h3, h4, h5, h6⟩ := h
  refine Wq.put h3 sz_4 rfl rfl (by simp) rfl hA h1 fun H' hb keep hA' => hk H' ⟨h1, h2, sl, hb, ?_, h5, fun x l e hx => by
    obtain ⟨p, q, r, t⟩ := h6 x l e hx
    exact ⟨p, keep _ _ _ r q, r, t⟩⟩ hA'
  rcases h4 with h | ⟨c, q1, q2, q3, q4⟩
  · exact .inl h
  · exact .inr ⟨c, q1, q2, keep _ _ _ (h5 _ _ _ _ q4) q3, q4⟩
/-- A token is put. -/
theorem Wq.tok (t : Tok) {k p : Value → T OB → Nat → Q} (hS : St fr bp nx0 H0 l0 b0 ok ts n H nx) (hl : l0.length + (n + 1) ≤ 100000) (hk : ∀ u H' nx', St fr bp nx0 H0 l0 b0 ok (ts ++ [t]) (n + 1) H' nx' → WqR P pl X0 (k u H' nx') nx0 H0 R) :
    WqR P pl X0 (effQ (efBuildSlice P H nx 29 1 (some [(0, t.v)])) fun v H nx => callQ (.call 76 [ptr bp, v] false none H nx) k p) nx0 H0 R := by
  obtain ⟨h0, hA, l, b, hO, hG⟩ := hS
  obtain ⟨h1, h2, sl, h3, h4, h5, h6⟩ := hO
  have hn0 := hA.1
  have hlen := hG.2.2
  refine Wq.row und_29 sz_31 zero_31 rfl (fl_31 _ _ _ _) hA fun H1 hb1 keep1 hA1 => ?_
  refine Wq.callR (R1 := fun u H' nx' => Out fr bp nx0 H' nx' (l ++ [t]) b) rfl ?_ fun u H2 nx2 hA2 hu => hk u H2 nx2 ⟨h0, hA2, l ++ [t], b, hu, hG.1, fun q => by rw [hG.2.1 q, List.append_assoc], by rw [List.length_append, List.length_singleton]; omega⟩
  rw [q76]
  have hch : chunk true 4 1 [i64 t.k, txt t.s, i64 t.n, i64 t.at_] = some [t.v] := chunk_aggs 4 [[i64 t.k, txt t.s, i64 t.n, i64 t.at_]] (by simp)
  refine Wq.frz und_29 sz_31 agg_31 rfl hb1 rfl (by rw [Nat.ble_eq_true_of_le (Nat.le_refl _), Bool.or_true]) hch rfl hA1 hA.1 fun H2 keep2 hA2 => ?_
  have h3' := keep2 _ _ _ (show bp ≠ nx by omega) (keep1 _ _ _ h2 h3)
  simp only [stpF, cond_true, cond_false, eq_self, List.length_nil, Int.reduceEq, Int.reduceLT, Int.reduceLE, fp_116_0]
  rw [rdLoad_cell h3' agg_29 (off := 0) (u := sl) rfl]
  simp only [stpF, cond_true, cond_false, eq_self, List.length_nil, Int.reduceEq, Int.reduceLT, Int.reduceLE]
  have hxs : xsOf H2 4 (rowV 4 [t.v]) = some (1, t.c) := xsOf_row 4 [t.v]
  rcases h4 with ⟨rfl, rfl⟩ | ⟨c, q1, q2, q3, rfl⟩
  · refine Wq.app0 und_29 sz_31 rfl hxs (sm_31 (by decide)) hA2 (fun q => by cases q) fun H3 _ hb3 keep3 hA3 => ?_
    have h3'' := keep3 _ _ _ (by omega) h3'
    refine Wq.put h3'' sz_29 rfl rfl (by simp) rfl hA3 h1 fun H4 hb4 keep4 hA4 => ?_
    exact Wq.retR hA4 ⟨h1, by omega, _, hb4, .inr ⟨nx + 1 + 1, by omega, by omega, keep4 _ _ _ (by omega) (by simpa using hb3), rfl⟩, fun c o n u q => by cases q; omega, fun x l e hx => by
      obtain ⟨p, q, r, t⟩ := h6 x l e hx
      exact ⟨by omega, keep4 _ _ _ r (keep3 _ _ _ (by omega) (keep2 _ _ _ (by omega) (keep1 _ _ _ p q))), r, fun c o n u q => by cases q; omega⟩⟩
  · have hcb := h5 _ _ _ _ rfl
    have q3' := keep2 _ _ _ (show c ≠ nx by omega) (keep1 _ _ _ q2 q3)
    refine Wq.app und_29 sz_31 q3' sz_31 (tokC_len l) rfl hxs rfl (sm_31 (by omega)) hA2 q1 (by omega) fun H3 hb3 keep3 hA3 => ?_
    have h3'' := keep3 _ _ _ (fun q => hcb q.symm) (by omega) h3'
    refine Wq.put h3'' sz_29 rfl rfl (by simp) rfl hA3 h1 fun H4 hb4 keep4 hA4 => ?_
    refine Wq.retR hA4 ⟨h1, by omega, _, hb4, .inr ⟨nx + 1 + 1, by omega, by omega, keep4 _ _ _ (by omega) ?_, by rw [List.length_append]; rfl⟩, fun c o n u q => by cases q; omega, fun x l e hx => by
      obtain ⟨p, q, r, t⟩ := h6 x l e hx
      exact ⟨by omega, keep4 _ _ _ r (keep3 _ _ _ (fun q => t _ _ _ _ rfl q.symm) (by omega) (keep2 _ _ _ (by omega) (keep1 _ _ _ p q))), r, fun c o n u q => by cases q; omega⟩⟩
    have e : tokC (l ++ [t]) = tokC l ++ t.c := by simp [tokC]
    rw [e]
    exact hb3
end
end Go.Proofs.YthjhonhhbddhkaaGreatDoor
/- The printer: signs, words, what must be. -/
namespace Go.Proofs.YthjhonhhbddhkaaGreatDoor
open Go.Ev Go.RowKit
noncomputable section
set_option maxRecDepth 100000
set_option linter.unusedVariables false
set_option linter.unusedSimpArgs false
variable {nx0 : Nat} {H0 : T OB}
variable {fr : Nat → List Value → TypeId → Prop} {bp : Nat} {l0 : List Tok} {b0 : Bool} {ok : Bool} {ts : List Tok} {n nx : Nat} {H : T OB} {R : Value → T OB → Nat → Prop}
abbrev sgT (s : List UInt8) : Tok := ⟨7, s, 0, 0⟩
abbrev kyT (s : List UInt8) : Tok := ⟨6, s, 0, 0⟩
theorem pu_tok (f : FuncId) (k : Int) (s : List UInt8) (hf : X0 f [txt s] = none) (hq : ∀ H nx, evT P pl (.call f [txt s] false none H nx) = effQ (efAlloc P H nx 31) (fun x0 H nx => optK (rdBuild P 31 (some [(0, i64 k), (1, txt s)])) (fun x1 => effQ (efStore P H nx 31 (some x0) (some x1)) (fun x2 H nx => optK (rdLoad P H 31 (some x0)) (fun x3 => .ret ⟨.ret x3, false, H, nx⟩) .bad)) .bad)) :
    P0 f [txt s] (Tok.v ⟨k, s, 0, 0⟩) := Pure.of hf fun H nx => by
  rw [hq]
  refine Wq.alloc zero_31 (.refl _ _) fun H1 hb _ hA1 => ?_
  simp only [stpF, cond_true, cond_false, eq_self, List.length_nil, Int.reduceEq, Int.reduceLT, Int.reduceLE, bd_31_t]
  refine Wq.store hb sz_31 (by simp) rfl rfl hA1 (by omega) fun H2 hb _ hA2 => ?_
  have hb' : IsB H2 nx (Tok.c ⟨k, s, 0, 0⟩) 31 := hb
  rw [rdLoad_agg hb' agg_31 sz_31 (by simp)]
  exact Wq.ret hA2
theorem pu_77 (s : List UInt8) : P0 77 [txt s] (Tok.v (sgT s)) := pu_tok 77 7 s rfl fun H nx => q77 ..
theorem pu_129 (s : List UInt8) : P0 129 [txt s] (Tok.v (kyT s)) := pu_tok 129 6 s rfl fun H nx => q129 ..
theorem Wq.sgn (s : List UInt8) {k p p' : Value → T OB → Nat → Q} (hS : St fr bp nx0 H0 l0 b0 ok ts n H nx) (hl : l0.length + (n + 1) ≤ 100000) (hk : ∀ u H' nx', St fr bp nx0 H0 l0 b0 ok (ts ++ [sgT s]) (n + 1) H' nx' → WqR P pl X0 (k u H' nx') nx0 H0 R) :
    WqR P pl X0 (callQ (.call 77 [txt s] false none H nx) (fun x H nx => effQ (efBuildSlice P H nx 29 1 (some [(0, x)])) fun v H nx => callQ (.call 76 [ptr bp, v] false none H nx) k p) p') nx0 H0 R :=
  Wq.callS (pu_77 s) hS fun H1 nx1 hS1 => Wq.tok (sgT s) hS1 hl hk
theorem Wq.key (s : List UInt8) {k p p' : Value → T OB → Nat → Q} (hS : St fr bp nx0 H0 l0 b0 ok ts n H nx) (hl : l0.length + (n + 1) ≤ 100000) (hk : ∀ u H' nx', St fr bp nx0 H0 l0 b0 ok (ts ++ [kyT s]) (n + 1) H' nx' → WqR P pl X0 (k u H' nx') nx0 H0 R) :
    WqR P pl X0 (callQ (.call 129 [txt s] false none H nx) (fun x H nx => effQ (efBuildSlice P H nx 29 1 (some [(0, x)])) fun v H nx => callQ (.call 76 [ptr bp, v] false none H nx) k p) p') nx0 H0 R :=
  Wq.callS (pu_129 s) hS fun H1 nx1 hS1 => Wq.tok (kyT s) hS1 hl hk
/-- What must be. -/
theorem put_127 (c : Bool) : Put 127 [.bool c] c [] 0 := fun fr bp nx0 H0 l0 b0 H nx hl hS => by
  obtain ⟨h0, hA, l, b, hO, hG⟩ := hS
  rw [q127]
  have hb := St.bad (⟨h0, hA, l, b, hO, hG⟩ : St fr bp nx0 H0 l0 b0 true [] 0 H nx)
  simp only [stpF, cond_true, cond_false, eq_self, List.length_nil, Int.reduceEq, Int.reduceLT, Int.reduceLE, fp_116_1, hb, Bool.or_false]
  have e0 : b = b0 := by rw [hG.1]; simp
  cases b0 with
  | true =>
    simp only [stpF, cond_true, cond_false, eq_self, List.length_nil, Int.reduceEq, Int.reduceLT, Int.reduceLE]
    refine hO.mark hA true fun H1 hO1 hA1 => ?_
    exact Wq.retR hA1 ⟨rfl, h0, hA1, l, true, hO1, by simp, nofun, hG.2.2⟩
  | false =>
    simp only [stpF, cond_true, cond_false, eq_self, List.length_nil, Int.reduceEq, Int.reduceLT, Int.reduceLE]
    refine hO.mark hA (!c) fun H1 hO1 hA1 => ?_
    exact Wq.retR hA1 ⟨rfl, h0, hA1, l, !c, hO1, by simp, fun q => hG.2.1 e0, hG.2.2⟩
/-- It is bad. -/
theorem Wq.bad {k : Value → T OB → Nat → Q} (hS : St fr bp nx0 H0 l0 b0 ok ts n H nx) (hk : ∀ H', St fr bp nx0 H0 l0 b0 false ts n H' nx → WqR P pl X0 (k undef H' nx) nx0 H0 R) : WqR P pl X0 (effQ (efStore P H nx 4 (some (.pointer (some ⟨bp, 1, none⟩))) (some (.bool true))) k) nx0 H0 R := by
  obtain ⟨h0, hA, l, b, hO, hG⟩ := hS
  refine hO.mark hA true fun H1 hO1 hA1 => hk H1 ⟨h0, hA1, l, true, hO1, by simp, nofun, hG.2.2⟩
theorem St.skip' {ok ok' : Bool} {ts ts' : List Tok} {n n' nx : Nat} {H : T OB} (h : St fr bp nx0 H0 l0 b0 ok ts n H nx) (hb : (b0 || !ok) = true) (e : b0 = false → ok = false → ok' = false) (en : n ≤ n') : St fr bp nx0 H0 l0 b0 ok' ts' n' H nx := by
  obtain ⟨h0, h1, l, b, h2, h3, h4, h5⟩ := h
  refine ⟨h0, h1, l, b, h2, ?_, fun q => ?_, by omega⟩
  · rw [h3, hb]
    cases b0 with
    | true => rfl
    | false => rw [e rfl (by simpa using hb)]; rfl
  · rw [h3, hb] at q; cases q
theorem Wq.skip {ok' : Bool} {ts' : List Tok} {n' : Nat} (h : St fr bp nx0 H0 l0 b0 ok ts n H nx) (hb : (b0 || !ok) = true) (e : b0 = false → ok = false → ok' = false) (en : n ≤ n') : WqR P pl X0 (.ret ⟨.ret (.tuple ⟨[]⟩), false, H, nx⟩) nx0 H0 (Done fr bp nx0 H0 l0 b0 ok' ts' n') := Wq.retR h.2.1 ⟨rfl, h.skip' hb e en⟩
/-- A token that must be right. -/
theorem put_132 (t : Tok) (hl : t.s.length < 9223372036854775807) : Put 132 [t.v] (tokOk t) [t] 1 := fun fr bp nx0 H0 l0 b0 H nx hn hS => by
  rw [q132]
  refine Wq.natS hS fun hS => ?_
  simp only [stpF, cond_true, cond_false, eq_self, List.length_nil, Int.reduceEq, Int.reduceLT, Int.reduceLE]
  refine Wq.callTS (pt_33 t hl) hS fun H1 nx1 hS1 => ?_
  simp only [stpF, cond_true, cond_false, eq_self, List.length_nil, Int.reduceEq, Int.reduceLT, Int.reduceLE]
  refine Wq.putS (put_127 _) rfl hS1 (by omega) fun u H2 nx2 hS2 => ?_
  refine Wq.tok t hS2 (by omega) fun u H3 nx3 hS3 => ?_
  exact Wq.done hS3 (by simp) (fun _ => by simp) (by omega)
def isAt (k : Int) : Bool := decide (k = 1) || (decide (k = 2) || (decide (k = 3) || (decide (k = 4) || (decide (k = 5) || (decide (k = 13) || decide (k = 10))))))
theorem pu_183 (e : Exp) : P0 183 [e.v] (.bool (isAt e.k)) := Pure.of rfl fun H nx => by
  rw [q183]
  refine Wq.natF' (.refl _ _) fun hA => ?_
  have L : ∀ b, b = isAt e.k → Wq P pl X0 (.jump (l183_20 b H (nx + 1))) nx H (.bool (isAt e.k)) := by
    intro b hb
    refine Wq.jmp (q183_20 ..) (fun _ => rfl) ?_
    rw [← hb]
    cases b <;> exact Wq.ret hA
  simp only [stpF, cond_true, cond_false, eq_self, List.length_nil, Int.reduceEq, Int.reduceLT, Int.reduceLE, sttF, List.length_map]
  unfold isAt at L ⊢
  refine Wq.ite (fun g => L _ (by simp [g])) (fun g1 => ?_)
  refine Wq.ite (fun g => L _ (by simp [g])) (fun g2 => ?_)
  refine Wq.ite (fun g => L _ (by simp [g])) (fun g3 => ?_)
  refine Wq.ite (fun g => L _ (by simp [g])) (fun g4 => ?_)
  refine Wq.ite (fun g => L _ (by simp [g])) (fun g5 => ?_)
  refine Wq.ite (fun g => L _ (by simp [g])) (fun g6 => ?_)
  exact L _ (by simp [g1, g2, g3, g4, g5, g6])
/-- An operator's token. -/
def opT (s : List UInt8) : Tok := if (match s with | [] => false | c :: _ => isLow c) = true then kyT s else sgT s
theorem pu_169 (a : UInt8) (r : List UInt8) : P0 169 [txt (a :: r)] (opT (a :: r)).v := Pure.of rfl fun H nx => by
  rw [q169]
  refine Wq.alloc zero_31 (.refl _ _) fun H1 hb _ hA1 => ?_
  have e1 : decide (97 ≤ (a.toNat : Int)) = decide (97 ≤ a.toNat) := by rw [decide_eq_decide]; omega
  have e2 : decide ((a.toNat : Int) ≤ 122) = decide (a.toNat ≤ 122) := by rw [decide_eq_decide]; omega
  have L : ∀ b, b = isLow a → Wq P pl X0 (.jump (l169_6 (txt (a :: r)) (.pointer (some ⟨nx, 0, none⟩)) b H1 (nx + 1))) nx H (opT (a :: r)).v := by
    intro b hb0
    refine Wq.jmp (q169_6 ..) (fun _ => rfl) ?_
    unfold opT
    show Wq P pl X0 _ nx H (if isLow a = true then kyT (a :: r) else sgT (a :: r)).v
    rw [← hb0]
    cases b with
    | true =>
      refine Wq.bK (fun _ => ?_) (fun h => by cases h)
      refine Wq.callB (pu_129 _) hA1 fun H2 nx2 hA2 n2 k2 => ?_
      refine Wq.store (k2 _ _ _ (by omega) hb) sz_31 (by simp) rfl rfl hA2 (by omega) fun H3 hb3 _ hA3 => ?_
      have hb' : IsB H3 nx (Tok.c (kyT (a :: r))) 31 := hb3
      rw [rdLoad_agg hb' agg_31 sz_31 (by simp)]
      exact Wq.ret hA3
    | false =>
      refine Wq.bK (fun h => by cases h) (fun _ => ?_)
      refine Wq.callB (pu_77 _) hA1 fun H2 nx2 hA2 n2 k2 => ?_
      refine Wq.store (k2 _ _ _ (by omega) hb) sz_31 (by simp) rfl rfl hA2 (by omega) fun H3 hb3 _ hA3 => ?_
      have hb' : IsB H3 nx (Tok.c (sgT (a :: r))) 31 := hb3
      rw [rdLoad_agg hb' agg_31 sz_31 (by simp)]
      exact Wq.ret hA3
  unfold isLow at L
  simp only [stpF, cond_true, cond_false, eq_self, List.length_nil, Int.reduceEq, Int.reduceLT, Int.reduceLE, ix0, e1, e2]
  refine Wq.bK (fun h => L _ (by rw [h, Bool.true_and])) (fun h => L _ (by rw [h, Bool.false_and]))
/-! a word among some -/
theorem w_153v (l : List (List UInt8)) (hl : l.length < big) (s : List UInt8) : ∀ (r : List (List UInt8)) (i : Nat) (H : T OB) (nx : Nat), l.drop i = r → i ≤ l.length → Ag nx0 H0 nx H → Wq P pl X0 (.jump (l153_7 (txt s) (strsR l) (i64 (l.length : Int)) (i64 (i : Int)) H nx)) nx0 H0 (.bool (r.contains s)) := by
  intro r
  induction r with
  | nil =>
    intro i H nx hd hi hA
    have hil := drop_nil hd hi
    refine Wq.jmp (q153_7 ..) (fun _ => rfl) ?_
    simp only [stpF, cond_true, cond_false, eq_self, List.length_nil, Int.reduceEq, Int.reduceLT, Int.reduceLE, sttF, List.length_map, hil, not_lt_len]
    exact Wq.ret hA
  | cons x r ih =>
    intro i H nx hd hi hA
    obtain ⟨hg, hlt, hd'⟩ := drop_cons hd
    have hg' : (l.map txt)[i]? = some (txt x) := by simp [hg]
    refine Wq.jmp (q153_7 ..) (fun _ => rfl) ?_
    simp only [stpF, cond_true, cond_false, eq_self, List.length_nil, Int.reduceEq, Int.reduceLT, Int.reduceLE, sttF, List.length_map, is_lt_len hlt, ix_49 hg', txt_dec, wrap_succ (show i < 9223372036854775807 by have := sm_lt hl; omega)]
    refine Wq.ite (fun h => ?_) (fun h => ?_)
    · exact Wq.retE (by subst h; simp) hA
    · have : ((x :: r).contains s) = r.contains s := by rw [List.contains_cons, show (s == x) = false from by simp; exact fun q => h q.symm, Bool.false_or]
      rw [this]
      exact ih (i + 1) H nx hd' (by omega) hA
theorem pu_153 (l : List (List UInt8)) (hl : l.length < big) (s : List UInt8) : P0 153 [strsR l, txt s] (.bool (l.contains s)) := Pure.of rfl fun H nx => by
  rw [q153]
  simp only [stpF, cond_true, cond_false, eq_self, List.length_nil, Int.reduceEq, Int.reduceLT, Int.reduceLE, sttF, List.length_map]
  exact w_153v l hl s l 0 H nx rfl (Nat.zero_le _) (.refl _ _)
theorem w_153_7 (b : Nat) (l : List (List UInt8)) (s : List UInt8) (hb : IsRo H0 b (l.map txt)) (hbx : b < nx0) (hl : l.length < 1000000) (cp : Nat) : ∀ (r : List (List UInt8)) (i : Nat) (H : T OB) (nx : Nat), l.drop i = r → i ≤ l.length → Ag nx0 H0 nx H →
    Wq P pl X0 (.jump (l153_7 (txt s) (.slice (some ⟨b, 0, none⟩) l.length cp) (i64 (l.length : Int)) (i64 (i : Int)) H nx)) nx0 H0 (.bool (r.contains s)) := by
  intro r
  induction r with
  | nil =>
    intro i H nx hd hi hA
    have hil := drop_nil hd hi
    refine Wq.jmp (q153_7 ..) (fun _ => rfl) ?_
    simp only [stpF, cond_true, cond_false, eq_self, List.length_nil, Int.reduceEq, Int.reduceLT, Int.reduceLE, hil, not_lt_len]
    exact Wq.ret hA
  | cons x r ih =>
    intro i H nx hd hi hA
    obtain ⟨hg, hlt, hd'⟩ := drop_cons hd
    have hg' : (l.map txt)[0 + i * 1]? = some (txt x) := by simp [hg]
    refine Wq.jmp (q153_7 ..) (fun _ => rfl) ?_
    simp only [stpF, cond_true, cond_false, eq_self, List.length_nil, Int.reduceEq, Int.reduceLT, Int.reduceLE, is_lt_len hlt, ixs_49 hlt, rdLoad_ro (hb.ag hA hbx) agg_9 hg', wrap_succ (show i < 9223372036854775807 by omega), txt_dec]
    refine Wq.ite (fun h => ?_) (fun h => ?_)
    · exact Wq.retE (by subst h; simp) hA
    · have : ((x :: r).contains s) = r.contains s := by rw [List.contains_cons, show (s == x) = false from by simp; exact fun q => h q.symm, Bool.false_or]
      rw [this]
      exact ih (i + 1) H nx hd' (by omega) hA
theorem sl_188 (H : T OB) : rdSlice P H 188 (some (.pointer (some ⟨3, 0, none⟩))) (some none) (some none) (some none) = some (.slice (some ⟨3, 0, none⟩) 8 8) := rdSlice_all (len := 8) (e := 9) (by kernel_rfl) sz_9 (by omega) (by omega)
theorem pt_153w (s : List UInt8) : PT 153 [.slice (some ⟨3, 0, none⟩) 8 8, txt s] (.bool (wordsL.contains s)) := PT.of rfl fun H nx hT => by
  rw [q153]
  simp only [stpF, cond_true, cond_false, eq_self, List.length_nil, Int.reduceEq, Int.reduceLT, Int.reduceLE]
  exact w_153_7 3 wordsL s hT.words (by have := hT.1; omega) (by decide) 8 wordsL 0 H nx rfl (Nat.zero_le _) (.refl _ _)
theorem rdLoad_roA {b s : Nat} {l : List Value} {t : TypeId} {H : T OB} (h : IsRo H b l) (ha : aggQ P t = some true) (hs : szOf P t = some s) (hl : l.length = s) : rdLoad P H t (some (.pointer (some ⟨b, 0, none⟩))) = some (.agg ⟨l⟩) := by
  obtain ⟨tr, h1, h2⟩ := h
  show loadO P H t b 0 = _
  unfold loadO
  rw [h1]
  show loadB P l.length tr t 0 = _
  unfold loadB
  rw [ha, optK_some]
  show loadA P l.length tr t 0 = _
  unfold loadA
  rw [hs, optK_some, toL_of h2 s 0 (by omega), Nat.ble_eq_true_of_le (show 0 + s ≤ l.length by omega)]
  simp [← hl]
theorem ix_182_0 : rdIndex P 182 (some (.agg ⟨levelsL.map lvl⟩)) (some (i64 0)) = some (lvl [[111, 114, 101, 108, 115, 101]]) := by kernel_rfl
theorem ix_182_1 : rdIndex P 182 (some (.agg ⟨levelsL.map lvl⟩)) (some (i64 1)) = some (lvl [[97, 110, 100, 97, 108, 115, 111]]) := by kernel_rfl
theorem ix_182_2 : rdIndex P 182 (some (.agg ⟨levelsL.map lvl⟩)) (some (i64 2)) = some (lvl [[58, 61]]) := by kernel_rfl
theorem ix_182_3 : rdIndex P 182 (some (.agg ⟨levelsL.map lvl⟩)) (some (i64 3)) = some (lvl [[61], [60, 62], [60], [60, 61], [62], [62, 61]]) := by kernel_rfl
theorem ix_182_4 : rdIndex P 182 (some (.agg ⟨levelsL.map lvl⟩)) (some (i64 4)) = some (lvl [[58, 58]]) := by kernel_rfl
theorem ix_182_5 : rdIndex P 182 (some (.agg ⟨levelsL.map lvl⟩)) (some (i64 5)) = some (lvl [[43], [45], [94]]) := by kernel_rfl
theorem ix_182_6 : rdIndex P 182 (some (.agg ⟨levelsL.map lvl⟩)) (some (i64 6)) = some (lvl [[42], [100, 105, 118], [109, 111, 100]]) := by kernel_rfl
theorem ix_182 (i : Nat) (x : List (List UInt8)) (h : levelsL[i]? = some x) : rdIndex P 182 (some (.agg ⟨levelsL.map lvl⟩)) (some (i64 (i : Int))) = some (lvl x) := by
  match i, h with
  | 0, h => exact (Option.some.inj (show some ([[111, 114, 101, 108, 115, 101]] : List (List UInt8)) = some x from h)) ▸ ix_182_0
  | 1, h => exact (Option.some.inj (show some ([[97, 110, 100, 97, 108, 115, 111]] : List (List UInt8)) = some x from h)) ▸ ix_182_1
  | 2, h => exact (Option.some.inj (show some ([[58, 61]] : List (List UInt8)) = some x from h)) ▸ ix_182_2
  | 3, h => exact (Option.some.inj (show some ([[61], [60, 62], [60], [60, 61], [62], [62, 61]] : List (List UInt8)) = some x from h)) ▸ ix_182_3
  | 4, h => exact (Option.some.inj (show some ([[58, 58]] : List (List UInt8)) = some x from h)) ▸ ix_182_4
  | 5, h => exact (Option.some.inj (show some ([[43], [45], [94]] : List (List UInt8)) = some x from h)) ▸ ix_182_5
  | 6, h => exact (Option.some.inj (show some ([[42], [100, 105, 118], [109, 111, 100]] : List (List UInt8)) = some x from h)) ▸ ix_182_6
  | i + 7, h => exact absurd h (by simp [levelsL])
theorem pt_167 (s : List UInt8) : PT 167 [txt s] (.bool (binsL.contains s)) := PT.of rfl fun H nx hT => by
  rw [q167, rdLoad_roA hT.levels agg_182 sz_182 rfl]
  simp only [stpF, cond_true, cond_false, eq_self, List.length_nil, Int.reduceEq, Int.reduceLT, Int.reduceLE]
  have e : binsL.contains s = levelsL.any fun l => l.contains s := by
    have : binsL = levelsL.flatten := by decide
    rw [this, Bool.eq_iff_iff]
    simp
  rw [e]
  refine Wq.each levelsL (fun i (_ : Unit) H nx => .jump (l167_7 (txt s) (.agg ⟨levelsL.map lvl⟩) (i64 (i : Int)) H nx)) (fun t (_ : Unit) => .bool (t.any fun l => l.contains s)) (fun _ H1 nx1 hA1 => ?_) (fun i a t _ H1 nx1 hg hlt hd hA1 ih => ?_) () _ _ (.refl _ _)
  · refine Wq.jmp (q167_7 ..) (fun _ => rfl) ?_
    simp only [stpF, cond_true, cond_false, eq_self, List.length_nil, Int.reduceEq, Int.reduceLT, Int.reduceLE, show decide ((levelsL.length : Int) < 7) = false from by decide]
    exact Wq.ret hA1
  · refine Wq.jmp (q167_7 ..) (fun _ => rfl) ?_
    have hlt' : i < 7 := hlt
    simp only [stpF, cond_true, cond_false, eq_self, List.length_nil, Int.reduceEq, Int.reduceLT, Int.reduceLE, show decide ((i : Int) < 7) = true from by simp; omega, ix_182 i a hg]
    have hal : a.length < big := by
      have : ∀ x ∈ levelsL, x.length < 10 := by decide
      exact Nat.lt_trans (this a (List.mem_of_getElem? hg)) (by decide)
    refine Wq.call (pu_153 a hal s) hA1 fun H2 nx2 hA2 => ?_
    rw [List.any_cons]
    cases a.contains s with
    | true => exact Wq.ret hA2
    | false =>
      simp only [stpF, cond_true, cond_false, eq_self, List.length_nil, Int.reduceEq, Int.reduceLT, Int.reduceLE, wrap_succ (show i < 9223372036854775807 by omega), Bool.false_or]
      exact ih () _ _ hA2
/-! what an expression has -/
def hasOk (e : Exp) (m : Int) (a b c d : Bool) : Bool := (decide (m < 0) || decide ((e.l.length : Int) = m)) && ((a || decide (e.s = [])) && ((b || decide (e.n = 0)) && ((c || decide (e.p.length = 0)) && (d || decide (e.d.length = 0)))))
theorem put_164 (e : Exp) (m : Int) (a b c d : Bool) : Put 164 [e.v, i64 m, .bool a, .bool b, .bool c, .bool d] (hasOk e m a b c d) [] 0 := fun fr bp nx0 H0 l0 b0 H nx hn hS => by
  rw [q164]
  refine Wq.natS hS fun hS => ?_
  have L : ∀ r, r = hasOk e m a b c d → WqR P pl X0 (callQ (.call 127 [ptr bp, .bool r] false none H (nx + 1)) (fun x H nx => .ret ⟨.ret (.tuple ⟨[]⟩), false, H, nx⟩) panK) nx0 H0 (Done fr bp nx0 H0 l0 b0 (hasOk e m a b c d) [] 0) := by
    intro r hr
    subst hr
    refine Wq.putS (put_127 _) rfl hS (by omega) fun u H2 nx2 hS2 => ?_
    exact Wq.done hS2 (by simp) (fun _ => rfl) (by omega)
  simp only [stpF, cond_true, cond_false, eq_self, List.length_nil, Int.reduceEq, Int.reduceLT, Int.reduceLE, sttF, List.length_map, txt_dec, nat_eq0]
  unfold hasOk at L ⊢
  generalize decide (m < 0) = x1 at *
  generalize decide ((e.l.length : Int) = m) = x2 at *
  generalize decide (e.s = []) = x3 at *
  generalize decide (e.n = 0) = x4 at *
  generalize decide (e.p.length = 0) = x5 at *
  generalize decide (e.d.length = 0) = x6 at *
  cases x1 <;> cases a <;> cases b <;> cases c <;> cases d <;> cases x2 <;> cases x3 <;> cases x4 <;> cases x5 <;> first | exact L _ rfl | (cases x6 <;> exact L _ rfl)
end
end Go.Proofs.YthjhonhhbddhkaaGreatDoor
/- The printer: patterns. -/
namespace Go.Proofs.YthjhonhhbddhkaaGreatDoor
open Go.Ev Go.RowKit
noncomputable section
set_option maxRecDepth 100000
set_option linter.unusedVariables false
set_option linter.unusedSimpArgs false
variable {nx0 : Nat} {H0 : T OB}
variable {fr : Nat → List Value → TypeId → Prop} {bp : Nat} {l0 : List Tok} {b0 : Bool} {ok : Bool} {ts : List Tok} {n nx : Nat} {H : T OB} {R : Value → T OB → Nat → Prop}
/-! a block that is kept -/
def frB (fr : Nat → List Value → TypeId → Prop) (b : Nat) (c : List Value) (e : TypeId) : Nat → List Value → TypeId → Prop := fun x l t => (x = b ∧ l = c ∧ t = e) ∨ fr x l t
theorem Wq.boxS {e : TypeId} {u : Value} {k : Value → T OB → Nat → Q} (hS : St fr bp nx0 H0 l0 b0 ok ts n H nx) (hk : ∀ H', (∀ x l t, fr x l t → x ≠ nx) → St (frB fr nx u.cells.toList e) bp nx0 H0 l0 b0 ok ts n H' (nx + 1) → WqR P pl X0 (k (.pointer (some ⟨nx, 0, none⟩)) H' (nx + 1)) nx0 H0 R) : WqR P pl X0 (effQ (efBox H nx e (some u)) k) nx0 H0 R := by
  obtain ⟨h0, hA, l, b, hO, hG⟩ := hS
  have hO' := hO
  obtain ⟨h1, h2, sl, h3, h4, h5, h6⟩ := hO
  refine Wq.box hA fun H' hb keep hA' => hk H' (fun x l t hx => by have := (h6 x l t hx).1; omega) ⟨h0, hA', l, b, ?_, hG⟩
  have := hO'.keep (nx' := nx + 1) (by omega) keep
  obtain ⟨g1, g2, sl', g3, g4, g5, g6⟩ := this
  have hrow : ∀ c o n u, sl = .slice (some ⟨c, o, none⟩) n u → c < nx := by
    intro c o n u q
    rcases h4 with ⟨_, e⟩ | ⟨c', _, q2, _, q4⟩
    · rw [q] at e; cases e
    · rw [q] at q4; cases q4; exact q2
  refine ⟨h1, by omega, sl, keep _ _ _ h2 h3, ?_, h5, fun x l t hx => ?_⟩
  · rcases h4 with h | ⟨c, q1, q2, q3, q4⟩
    · exact .inl h
    · exact .inr ⟨c, q1, by omega, keep _ _ _ q2 q3, q4⟩
  · rcases hx with ⟨rfl, rfl, rfl⟩ | hx
    · exact ⟨by omega, hb, by omega, fun c o n u q => by have := hrow c o n u q; omega⟩
    · obtain ⟨p, q, r⟩ := h6 x l t hx
      exact ⟨by omega, keep _ _ _ p q, r⟩
theorem St.get {b : Nat} {c : List Value} {e : TypeId} (h : St (frB fr b c e) bp nx0 H0 l0 b0 ok ts n H nx) : IsB H b c e := by
  obtain ⟨_, _, l, b', ⟨_, _, sl, _, _, _, h6⟩, _⟩ := h
  exact (h6 b c e (.inl ⟨rfl, rfl, rfl⟩)).2.1
theorem St.drop {b : Nat} {c : List Value} {e : TypeId} (h : St (frB fr b c e) bp nx0 H0 l0 b0 ok ts n H nx) : St fr bp nx0 H0 l0 b0 ok ts n H nx := by
  obtain ⟨h0, hA, l, b', ⟨h1, h2, sl, h3, h4, h5, h6⟩, hG⟩ := h
  exact ⟨h0, hA, l, b', ⟨h1, h2, sl, h3, h4, h5, fun x l t hx => h6 x l t (.inr hx)⟩, hG⟩
theorem Wq.putB {b off : Nat} {c c' : List Value} {e t : TypeId} {u : Value} {k : Value → T OB → Nat → Q} (hS : St (frB fr b c e) bp nx0 H0 l0 b0 ok ts n H nx) (hbn : nx0 ≤ b) (hne : ∀ x l t, fr x l t → x ≠ b) (hs : szOf P t = some 1) (hc : u.cells.toList = [u]) (ho : oneCell u = true) (hn : off < c.length) (hl : c.set off u = c')
    (hk : ∀ H', St (frB fr b c' e) bp nx0 H0 l0 b0 ok ts n H' nx → WqR P pl X0 (k undef H' nx) nx0 H0 R) : WqR P pl X0 (effQ (efStore P H nx t (some (.pointer (some ⟨b, off, none⟩))) (some u)) k) nx0 H0 R := by
  obtain ⟨h0, hA, l, b', ⟨h1, h2, sl, h3, h4, h5, h6⟩, hG⟩ := hS
  obtain ⟨hb1, hb2, hb3, hb4⟩ := h6 b c e (.inl ⟨rfl, rfl, rfl⟩)
  refine Wq.put hb2 hs hc ho hn hl hA hbn fun H' hb keep hA' => hk H' ⟨h0, hA', l, b', ⟨h1, h2, sl, keep _ _ _ (fun q => hb3 q.symm) h3, ?_, h5, fun x l t hx => ?_⟩, hG⟩
  · rcases h4 with h | ⟨c, q1, q2, q3, q4⟩
    · exact .inl h
    · exact .inr ⟨c, q1, q2, keep _ _ _ (hb4 _ _ _ _ q4) q3, q4⟩
  · rcases hx with ⟨rfl, rfl, rfl⟩ | hx
    · exact ⟨hb1, hb, hb3, hb4⟩
    · obtain ⟨p, q, r⟩ := h6 x l t (.inr hx)
      exact ⟨p, keep _ _ _ (hne x l t hx) q, r⟩
/-! rows that are put -/
def tokL {α : Type} (tf : Bool → α → List Tok) : Bool → List α → List Tok
  | _, [] => []
  | b, a :: l => tf b a ++ tokL tf false l
def sumN {α : Type} (nf : α → Nat) : List α → Nat
  | [] => 0
  | a :: l => nf a + sumN nf l
theorem Wq.eachS {α : Type} (l : List α) (okf : α → Bool) (tf : Bool → α → List Tok) (nf : α → Nat) (q : Nat → T OB → Nat → Q) (hS : St fr bp nx0 H0 l0 b0 ok ts n H nx) (hl : l0.length + (n + sumN nf l) ≤ 100000)
    (hend : ∀ H nx, St fr bp nx0 H0 l0 b0 (ok && l.all okf) (ts ++ tokL tf true l) (n + sumN nf l) H nx → WqR P pl X0 (q l.length H nx) nx0 H0 R)
    (hstep : ∀ i a H nx ok' ts' n', l[i]? = some a → i < l.length → l0.length + (n' + nf a) ≤ 100000 → St fr bp nx0 H0 l0 b0 ok' ts' n' H nx → (∀ H nx, St fr bp nx0 H0 l0 b0 (ok' && okf a) (ts' ++ tf (decide (i = 0)) a) (n' + nf a) H nx → WqR P pl X0 (q (i + 1) H nx) nx0 H0 R) → WqR P pl X0 (q i H nx) nx0 H0 R) :
    WqR P pl X0 (q 0 H nx) nx0 H0 R := by
  have key : ∀ (t : List α) (i : Nat) (ok' : Bool) (ts' : List Tok) (n' : Nat) (H : T OB) (nx : Nat), l.drop i = t → i ≤ l.length → (ok' && t.all okf) = (ok && l.all okf) → ts' ++ tokL tf (decide (i = 0)) t = ts ++ tokL tf true l → n' + sumN nf t = n + sumN nf l → St fr bp nx0 H0 l0 b0 ok' ts' n' H nx → WqR P pl X0 (q i H nx) nx0 H0 R := by
    intro t
    induction t with
    | nil =>
      intro i ok' ts' n' H nx hd hi h1 h2 h3 hS
      have hil := drop_nil hd hi
      subst hil
      refine hend H nx ?_
      rw [← h1, ← h2, ← h3]
      simpa [tokL, sumN] using hS
    | cons a t ih =>
      intro i ok' ts' n' H nx hd hi h1 h2 h3 hS
      obtain ⟨hg, hlt, hd'⟩ := drop_cons hd
      rw [sumN] at h3
      refine hstep i a H nx ok' ts' n' hg hlt (by omega) hS fun H2 nx2 hS2 => ih (i + 1) _ _ _ H2 nx2 hd' (by omega) ?_ ?_ ?_ hS2
      · rw [← h1, List.all_cons, Bool.and_assoc]
      · rw [← h2, tokL, List.append_assoc]; rfl
      · omega
  exact key l 0 ok ts n H nx rfl (Nat.zero_le _) rfl rfl rfl hS
/-- With a sign between. -/
def sepF {α : Type} (s : List UInt8) (f : α → List Tok) : Bool → α → List Tok := fun b a => (if b = true then [] else [sgT s]) ++ f a
/-! patterns -/
abbrev PI := (Int × Nat) × (List Tok × List (List Tok))
def partP (x : PI) : List Tok := if x.1.1 = 6 ∧ x.1.2 ≠ 0 then sgT [40] :: (x.2.1 ++ [sgT [41]]) else x.2.1
def patTH (k n : Int) (s : List UInt8) (q : List PI) : List Tok :=
  if k = 1 then [sgT [95]]
  else if k = 2 then [⟨3, s, 0, 0⟩]
  else if k = 3 then if n < 0 then [sgT [126], ⟨1, [], -n, 0⟩] else [⟨1, [], n, 0⟩]
  else if k = 4 then [⟨2, s, 0, 0⟩]
  else if k = 5 then sgT [40] :: (tokL (sepF [44] partP) true q ++ [sgT [41]])
  else if k = 6 then if s = [58, 58] then (match q with | [x] => (match x.2.2 with | [a, b] => a ++ sgT [58, 58] :: b | _ => []) | _ => []) else ⟨4, s, 0, 0⟩ :: tokL (fun _ => partP) true q
  else []
mutual
def patI : Pat → List Tok × List (List Tok)
  | .mk k n s l => (patTH k n s (patsI l), (patsI l).map partP)
def patsI : List Pat → List PI
  | [] => []
  | p :: l => ((p.k, p.l.length), patI p) :: patsI l
end
def patT (p : Pat) : List Tok := (patI p).1
def patPT (p : Pat) : List Tok := partP ((p.k, p.l.length), patI p)
theorem patsI_eq (l : List Pat) : patsI l = l.map fun p => ((p.k, p.l.length), patI p) := by
  induction l with
  | nil => rw [patsI]; rfl
  | cons p l ih => rw [patsI, ih]; rfl
theorem patI_eq (p : Pat) : patI p = (patTH p.k p.n p.s (p.l.map fun p => ((p.k, p.l.length), patI p)), p.l.map patPT) := by
  cases p; rw [patI, patsI_eq, List.map_map]; rfl
theorem patPT_eq (p : Pat) : patPT p = if p.k = 6 ∧ p.l.length ≠ 0 then sgT [40] :: (patT p ++ [sgT [41]]) else patT p := rfl
theorem tokL_map {α β : Type} (tf : Bool → β → List Tok) (g : α → β) (l : List α) : ∀ b, tokL tf b (l.map g) = tokL (fun b a => tf b (g a)) b l := by
  induction l with
  | nil => intro b; rfl
  | cons a l ih => intro b; rw [List.map_cons, tokL, tokL, ih]
theorem patsRt_all (l : List Pat) : patsRt l = l.all patR := by
  induction l with
  | nil => rw [patsRt]; rfl
  | cons a l ih => rw [patsRt, ih]; rfl
theorem sumN_pats (l : List Pat) : sumN (fun p : Pat => 8 * p.z) l = 8 * patsZ l := by
  induction l with
  | nil => rfl
  | cons a l ih => rw [sumN, ih, patsZ]; omega
theorem Pat.z_pos (p : Pat) : 1 ≤ p.z := by rw [Pat.z_eq]; omega
theorem sLt {s : List UInt8} (h : sOk s) : s.length < 9223372036854775807 := Nat.lt_trans h (by decide)
theorem put_133 (p : Pat) (ih : Put 130 [p.v] (patR p) (patT p) (8 * p.z - 4)) : Put 133 [p.v] (patR p) (patPT p) (8 * p.z - 2) := fun fr bp nx0 H0 l0 b0 H nx hn hS => by
  have hz := p.z_pos
  rw [q133]
  refine Wq.natS hS fun hS => ?_
  simp only [stpF, cond_true, cond_false, eq_self, List.length_nil, Int.reduceEq, Int.reduceLT, Int.reduceLE, sttF, List.length_map, nat_eq0]
  have L : ∀ b : Bool, b = decide ¬(p.k = 6 ∧ p.l.length ≠ 0) → WqR P pl X0 (.jump (l133_6 (ptr bp) (eptrV p.v) b H (nx + 1))) nx0 H0 (Done fr bp nx0 H0 l0 b0 (patR p) (patPT p) (8 * p.z - 2)) := by
    intro b hb
    refine Wq.jmp (q133_6 ..) (fun _ => rfl) ?_
    rw [patPT_eq]
    cases b with
    | true =>
      simp only [stpF, cond_true, cond_false, eq_self, List.length_nil, Int.reduceEq, Int.reduceLT, Int.reduceLE, sttF, List.length_map]
      rw [if_neg (of_decide_eq_true hb.symm)]
      refine Wq.putS ih rfl hS (by omega) fun u H2 nx2 hS2 => ?_
      exact Wq.done hS2 (by simp) (fun _ => by simp) (by omega)
    | false =>
      simp only [stpF, cond_true, cond_false, eq_self, List.length_nil, Int.reduceEq, Int.reduceLT, Int.reduceLE, sttF, List.length_map]
      rw [if_pos (Decidable.not_not.1 (of_decide_eq_false hb.symm))]
      refine Wq.sgn [40] hS (by omega) fun u H1 nx1 hS1 => ?_
      refine Wq.putS ih rfl hS1 (by omega) fun u H2 nx2 hS2 => ?_
      refine Wq.sgn [41] hS2 (by omega) fun u H3 nx3 hS3 => ?_
      exact Wq.done hS3 (by simp) (fun _ => by simp) (by omega)
  refine Wq.nite (fun h => L _ (by simp [h])) (fun h => ?_)
  exact L _ (by simp [h])
theorem put_162 (l : List Pat) (hl : l.length < big) (ih : ∀ a, a ∈ l → Put 133 [a.v] (patR a) (patPT a) (8 * a.z - 2)) : Put 162 [patsR l] (patsRt l) (tokL (sepF [44] patPT) true l) (8 * patsZ l) := fun fr bp nx0 H0 l0 b0 H nx hn hS => by
  rw [q162]
  simp only [stpF, cond_true, cond_false, eq_self, List.length_nil, Int.reduceEq, Int.reduceLT, Int.reduceLE, sttF, List.length_map]
  refine Wq.eachS l patR (sepF [44] patPT) (fun p => 8 * p.z) (fun i H nx => .jump (l162_5 (ptr bp) (patsR l) (i64 (l.length : Int)) (i64 (i : Int)) H nx)) hS (by rw [sumN_pats]; omega) (fun H1 nx1 hS1 => ?_) (fun i a H1 nx1 ok' ts' n' hg hlt hb hS1 ih' => ?_)
  · refine Wq.jmp (q162_5 ..) (fun _ => rfl) ?_
    simp only [stpF, cond_true, cond_false, eq_self, List.length_nil, Int.reduceEq, Int.reduceLT, Int.reduceLE, sttF, List.length_map, not_lt_len]
    exact Wq.done hS1 (by rw [patsRt_all]; simp) (fun _ => by simp) (by rw [sumN_pats]; omega)
  · have hx : (l.map Pat.v)[i]? = some a.v := by simp [hg]
    have hm := List.mem_of_getElem? hg
    have hz := a.z_pos
    refine Wq.jmp (q162_5 ..) (fun _ => rfl) ?_
    simp only [stpF, cond_true, cond_false, eq_self, List.length_nil, Int.reduceEq, Int.reduceLT, Int.reduceLE, sttF, List.length_map, is_lt_len hlt, ix_42 hx]
    refine Wq.varS zero_47 sz_47 rfl (nPat _) (oPat _) hS1 fun H2 nx2 hS2 => ?_
    have L : ∀ ts2 n2 H3 nx3, St fr bp nx0 H0 l0 b0 ok' ts2 n2 H3 nx3 → ts2 = ts' ++ (if decide (i = 0) = true then [] else [sgT [44]]) → n2 ≤ n' + 1 → WqR P pl X0 (.jump (l162_12 (ptr bp) (eptrV a.v) (patsR l) (i64 (l.length : Int)) (i64 (i : Int)) H3 nx3)) nx0 H0 (Done fr bp nx0 H0 l0 b0 (patsRt l) (tokL (sepF [44] patPT) true l) (8 * patsZ l)) := by
      intro ts2 n2 H3 nx3 hS3 e en
      subst e
      refine Wq.jmp (q162_12 ..) (fun _ => rfl) ?_
      simp only [stpF, cond_true, cond_false, eq_self, List.length_nil, Int.reduceEq, Int.reduceLT, Int.reduceLE, sttF, List.length_map]
      refine Wq.putS (ih a hm) rfl hS3 (by omega) fun u H4 nx4 hS4 => ?_
      simp only [stpF, cond_true, cond_false, eq_self, List.length_nil, Int.reduceEq, Int.reduceLT, Int.reduceLE, wrap_succ (show i < 9223372036854775807 by have := sm_lt hl; omega)]
      refine ih' _ _ (hS4.mono rfl (fun _ => ?_) (by omega))
      unfold sepF; simp
    refine Wq.ite (fun h => ?_) (fun h => ?_)
    · refine Wq.sgn [44] hS2 (by omega) fun u H3 nx3 hS3 => ?_
      exact L _ _ _ _ hS3 (by rw [if_neg (by simp; omega)]) (by omega)
    · exact L _ _ _ _ hS2 (by rw [if_pos (by simp; omega)]; simp) (by omega)
theorem sumN_pats' (l : List Pat) : sumN (fun p : Pat => 8 * p.z - 2) l ≤ 8 * patsZ l := by
  induction l with
  | nil => simp [sumN]
  | cons a l ih => rw [sumN, patsZ]; omega
theorem patT_eq (p : Pat) : patT p = patTH p.k p.n p.s (p.l.map fun p => ((p.k, p.l.length), patI p)) := by unfold patT; rw [patI_eq]
theorem put_163 (p : Pat) (h6 : p.k = 6) (hp : p.ok) (ih : ∀ a, a ∈ p.l → Put 133 [a.v] (patR a) (patPT a) (8 * a.z - 2)) (ih2 : ∀ q, q ∈ p.l → ∀ a, a ∈ q.l → Put 133 [a.v] (patR a) (patPT a) (8 * a.z - 2)) : Put 163 [p.v] (patR p) (patT p) (8 * p.z - 4) := fun fr bp nx0 H0 l0 b0 H nx hn hS => by
  rw [Pat.ok_iff] at hp
  have hz := p.z_eq
  have hlen := patsZ_len p.l
  rw [q163]
  refine Wq.natS hS fun hS => ?_
  simp only [stpF, cond_true, cond_false, eq_self, List.length_nil, Int.reduceEq, Int.reduceLT, Int.reduceLE, sttF, List.length_map, nat_le1]
  have e0 : patR p = (patsRt p.l && (decide (p.n = 0) && if p.s = [58, 58] then (match p.l with | [q] => decide (q.k = 5) && decide (q.l.length = 2) | _ => false) else wordOk 4 p.s && decide (p.l.length ≤ 1))) := by
    rw [patR_eq]; unfold patHd; rw [h6]; simp <;> rfl
  have L6 : ∀ (r : Bool) H1 nx1, r = (decide (p.l.length ≤ 1) && decide (p.n = 0)) → St fr bp nx0 H0 l0 b0 r [] 0 H1 nx1 → WqR P pl X0 (.jump (l163_6 (ptr bp) (eptrV p.v) H1 nx1)) nx0 H0 (Done fr bp nx0 H0 l0 b0 (patR p) (patT p) (8 * p.z - 4)) := by
    intro r H1 nx1 hr hS1
    refine Wq.jmp (q163_6 ..) (fun _ => rfl) ?_
    simp only [stpF, cond_true, cond_false, eq_self, List.length_nil, Int.reduceEq, Int.reduceLT, Int.reduceLE, sttF, List.length_map, txt_dec, nat_eq1, nat_eq2]
    refine Wq.ite (fun hs => ?_) (fun hs => ?_)
    · rw [if_pos hs] at e0
      have L10 : ∀ (c : Bool) H2 nx2, (c = true → ∃ q a b, p.l = [q] ∧ q.k = 5 ∧ q.l = [a, b] ∧ q.s = [] ∧ q.n = 0) → (c = false → patR p = false) → St fr bp nx0 H0 l0 b0 (r && c) [] 0 H2 nx2 → WqR P pl X0 (.jump (l163_10 (ptr bp) (eptrV p.v) H2 nx2)) nx0 H0 (Done fr bp nx0 H0 l0 b0 (patR p) (patT p) (8 * p.z - 4)) := by
        intro c H2 nx2 hc hc2 hS2
        refine Wq.jmp (q163_10 ..) (fun _ => rfl) ?_
        simp only [stpF, cond_true, cond_false, eq_self, List.length_nil, Int.reduceEq, Int.reduceLT, Int.reduceLE, fp_116_1, hS2.bad]
        refine Wq.bK (fun hb => ?_) (fun hb => ?_)
        · have hb0 : b0 = false := by cases b0 with
            | false => rfl
            | true => simp at hb
          have hrc : (r && c) = true := by rw [hb0] at hb; simpa using hb
          rw [Bool.and_eq_true] at hrc
          obtain ⟨q, a, b, hl, hk, hql, hqs, hqn⟩ := hc hrc.2
          have hr' := hrc.1
          rw [hr, Bool.and_eq_true, decide_eq_true_eq, decide_eq_true_eq] at hr'
          have hx : (p.l.map Pat.v)[0]? = some q.v := by rw [hl]; rfl
          have hx' := ix_42 hx .i64
          rw [show ((0 : Nat) : Int) = 0 from rfl] at hx'
          have hy : (q.l.map Pat.v)[0]? = some a.v := by rw [hql]; rfl
          have hy' := ix_42 hy .i64
          rw [show ((0 : Nat) : Int) = 0 from rfl] at hy'
          have hw : (q.l.map Pat.v)[1]? = some b.v := by rw [hql]; rfl
          have hw' := ix_42 hw .i64
          rw [show ((1 : Nat) : Int) = 1 from rfl] at hw'
          simp only [stpF, cond_true, cond_false, eq_self, List.length_nil, Int.reduceEq, Int.reduceLT, Int.reduceLE, sttF, List.length_map, hx', hy', hw']
          have hqm : q ∈ p.l := by rw [hl]; simp
          have ha : a ∈ q.l := by rw [hql]; simp
          have hbm : b ∈ q.l := by rw [hql]; simp
          have hqz := q.z_eq
          have z1 : patsZ p.l = q.z + 0 := by rw [hl]; rfl
          have z2 : patsZ q.l = a.z + (b.z + 0) := by rw [hql]; rfl
          have pa := a.z_pos
          have pb := b.z_pos
          refine Wq.putS (ih2 q hqm a ha) rfl hS2 (by omega) fun u H3 nx3 hS3 => ?_
          refine Wq.sgn [58, 58] hS3 (by omega) fun u H4 nx4 hS4 => ?_
          refine Wq.putS (ih2 q hqm b hbm) rfl hS4 (by omega) fun u H5 nx5 hS5 => ?_
          refine Wq.done hS5 ?_ (fun _ => ?_) (by omega)
          · rw [e0, hl, hrc.1, hrc.2]
            simp only [patsRt, hk, hql, hr'.2, decide_true, Bool.true_and, Bool.and_true, List.length_cons, List.length_nil]
            rw [patR_eq q, hql, hk, hqs, hqn]
            simp [patsRt, patHd]
          · rw [patT_eq, h6, hs, hl]
            simp only [patTH, List.map_cons, List.map_nil]
            rw [patI_eq q, hql]
            simp
        · refine Wq.skip hS2 (by rw [Bool.not_eq_false'] at hb; exact hb) (fun g1 g2 => ?_) (by omega)
          rcases Bool.eq_false_or_eq_true c with h | h
          · rw [h, Bool.and_true] at g2
            obtain ⟨q, a, b, hl, _⟩ := hc h
            rw [e0]
            rw [g2, hl] at hr
            have : decide (p.n = 0) = false := by simpa using hr.symm
            rw [this]; simp
          · exact hc2 h
      have F : ∀ (c : Bool), (c = true → ∃ q a b, p.l = [q] ∧ q.k = 5 ∧ q.l = [a, b] ∧ q.s = [] ∧ q.n = 0) → (c = false → patR p = false) → WqR P pl X0 (callQ (.call 127 [ptr bp, .bool c] false none H1 nx1) (fun x H nx => .jump (l163_10 (ptr bp) (eptrV p.v) H nx)) panK) nx0 H0 (Done fr bp nx0 H0 l0 b0 (patR p) (patT p) (8 * p.z - 4)) := by
        intro c hc hc2
        refine Wq.putS (put_127 c) rfl hS1 (by omega) fun u H2 nx2 hS2 => ?_
        exact L10 c H2 nx2 hc hc2 hS2
      match hl : p.l with
      | [] =>
        rw [hl] at e0
        simp only [stpF, cond_true, cond_false, eq_self, List.length_nil, Int.reduceEq, Int.reduceLT, Int.reduceLE, show decide (([] : List Pat).length = 1) = false by simp]
        exact F false nofun (fun _ => by rw [e0]; simp)
      | q :: q' :: r =>
        rw [hl] at e0
        simp only [stpF, cond_true, cond_false, eq_self, List.length_nil, Int.reduceEq, Int.reduceLT, Int.reduceLE, show decide ((q :: q' :: r).length = 1) = false by simp]
        exact F false nofun (fun _ => by rw [e0]; simp)
      | [q] =>
        rw [hl] at e0
        have hx : (p.l.map Pat.v)[0]? = some q.v := by rw [hl]; rfl
        have hx' := ix_42 hx .i64
        rw [show ((0 : Nat) : Int) = 0 from rfl, hl] at hx'
        simp only [stpF, cond_true, cond_false, eq_self, List.length_nil, Int.reduceEq, Int.reduceLT, Int.reduceLE, sttF, List.length_map, show decide (([q] : List Pat).length = 1) = true by simp, hx', nat_eq2, txt_dec]
        have e1 : patR p = (patR q && (decide (p.n = 0) && (decide (q.k = 5) && decide (q.l.length = 2)))) := by rw [e0]; simp [patsRt]
        refine Wq.ite (fun g1 => ?_) (fun g1 => F false nofun (fun _ => by rw [e1]; simp [g1]))
        refine Wq.ite (fun g2 => ?_) (fun g2 => F false nofun (fun _ => by rw [e1]; simp [g2]))
        have e2 : patR q = (patsRt q.l && (decide (q.n = 0) && (decide (q.s = []) && !decide (q.l.length = 1)))) := by rw [patR_eq, g1]; simp [patHd]
        refine Wq.ite (fun g3 => ?_) (fun g3 => F false nofun (fun _ => by rw [e1, e2]; simp [g3]))
        refine F _ (fun g4 => ?_) (fun g4 => by rw [e1, e2, g4]; simp)
        obtain ⟨a, b, hq⟩ : ∃ a b, q.l = [a, b] := by
          match h : q.l with
          | [] => rw [h] at g2; simp at g2
          | [_] => rw [h] at g2; simp at g2
          | [a, b] => exact ⟨a, b, rfl⟩
          | a :: b :: c :: r => rw [h] at g2; simp at g2
        exact ⟨q, a, b, hl, g1, hq, g3, of_decide_eq_true g4⟩
    · rw [if_neg hs] at e0
      simp only [stpF, cond_true, cond_false, eq_self, List.length_nil, Int.reduceEq, Int.reduceLT, Int.reduceLE, bd_31_t]
      refine Wq.putS (put_132 ⟨4, p.s, 0, 0⟩ (sLt hp.2.1)) rfl hS1 (by omega) fun u H2 nx2 hS2 => ?_
      have hsum := sumN_pats' p.l
      refine Wq.eachS p.l patR (fun _ => patPT) (fun p => 8 * p.z - 2) (fun i H nx => .jump (l163_23 (ptr bp) (patsR p.l) (i64 (p.l.length : Int)) (i64 (i : Int)) H nx)) hS2 (by omega) (fun H1 nx1 hS1 => ?_) (fun i a H1 nx1 ok' ts' n' hg hlt hb hS1 ih' => ?_)
      · refine Wq.jmp (q163_23 ..) (fun _ => rfl) ?_
        simp only [stpF, cond_true, cond_false, eq_self, List.length_nil, Int.reduceEq, Int.reduceLT, Int.reduceLE, sttF, List.length_map, not_lt_len]
        refine Wq.done hS1 ?_ (fun _ => ?_) (by omega)
        · rw [e0, hr, patsRt_all]
          show _ = (p.l.all patR && (decide (p.n = 0) && (tokOk ⟨4, p.s, 0, 0⟩ && decide (p.l.length ≤ 1))))
          cases p.l.all patR <;> cases decide (p.n = 0) <;> cases tokOk ⟨4, p.s, 0, 0⟩ <;> cases decide (p.l.length ≤ 1) <;> rfl
        · rw [patT_eq, h6]
          simp only [patTH]
          rw [if_neg (by omega), if_neg (by omega), if_neg (by omega), if_neg (by omega), if_neg (by omega), if_pos trivial, if_neg hs, tokL_map]
          rfl
      · have hx : (p.l.map Pat.v)[i]? = some a.v := by simp [hg]
        have hm := List.mem_of_getElem? hg
        refine Wq.jmp (q163_23 ..) (fun _ => rfl) ?_
        simp only [stpF, cond_true, cond_false, eq_self, List.length_nil, Int.reduceEq, Int.reduceLT, Int.reduceLE, sttF, List.length_map, is_lt_len hlt, ix_42 hx]
        refine Wq.varS zero_47 sz_47 rfl (nPat _) (oPat _) hS1 fun H2 nx2 hS2 => ?_
        refine Wq.putS (ih a hm) rfl hS2 (by omega) fun u H4 nx4 hS4 => ?_
        simp only [stpF, cond_true, cond_false, eq_self, List.length_nil, Int.reduceEq, Int.reduceLT, Int.reduceLE, wrap_succ (show i < 9223372036854775807 by have := sm_lt hp.2.2.1; omega)]
        exact ih' _ _ hS4
  refine Wq.bK (fun h => ?_) (fun h => ?_)
  · refine Wq.putS (put_127 _) rfl hS (by omega) fun u H1 nx1 hS1 => ?_
    exact L6 _ H1 nx1 (by simp [h]) hS1
  · refine Wq.putS (put_127 _) rfl hS (by omega) fun u H1 nx1 hS1 => ?_
    exact L6 _ H1 nx1 (by simp [h]) hS1
end
end Go.Proofs.YthjhonhhbddhkaaGreatDoor
/- The printer: patterns, types, constructors, datatypes. -/
namespace Go.Proofs.YthjhonhhbddhkaaGreatDoor
open Go.Ev Go.RowKit
noncomputable section
set_option maxRecDepth 100000
set_option linter.unusedVariables false
set_option linter.unusedSimpArgs false
variable {nx0 : Nat} {H0 : T OB}
variable {fr : Nat → List Value → TypeId → Prop} {bp : Nat} {l0 : List Tok} {b0 : Bool} {ok : Bool} {ts : List Tok} {n nx : Nat} {H : T OB} {R : Value → T OB → Nat → Prop}
theorem PB_of {H : T OB} {b : Nat} {p : Pat} (h : IsB H b p.cs 47) : rdLoad P H 3 (some (.pointer (some ⟨b, 0, none⟩))) = some (i64 p.k) ∧ rdLoad P H 2 (some (.pointer (some ⟨b, 1, none⟩))) = some (i64 p.n) ∧ rdLoad P H 9 (some (.pointer (some ⟨b, 2, none⟩))) = some (txt p.s) ∧ rdLoad P H 42 (some (.pointer (some ⟨b, 3, none⟩))) = some (patsR p.l) ∧ rdLoad P H 47 (some (.pointer (some ⟨b, 0, none⟩))) = some p.v := by
  rw [Pat.cs_eq] at h
  rw [Pat.v_eq]
  exact ⟨rdLoad_cell h agg_3 rfl, rdLoad_cell h agg_2 rfl, rdLoad_cell h agg_9 rfl, rdLoad_cell h agg_42 rfl, rdLoad_agg h agg_47 sz_47 (by simp)⟩
theorem put_130a (p : Pat) (hp : p.ok) (h162 : Put 162 [patsR p.l] (patsRt p.l) (tokL (sepF [44] patPT) true p.l) (8 * patsZ p.l)) (h163 : p.k = 6 → Put 163 [p.v] (patR p) (patT p) (8 * p.z - 4)) : Put 130 [p.v] (patR p) (patT p) (8 * p.z - 4) := fun fr bp nx0 H0 l0 b0 H nx hn hS => by
  rw [Pat.ok_iff] at hp
  have hz := p.z_eq
  have hn0 := hS.2.1.1
  rw [q130]
  refine Wq.boxS hS fun H1 hne hS1 => ?_
  have hB := PB_of (p := p) hS1.get
  simp only [stpF, cond_true, cond_false, eq_self, List.length_nil, Int.reduceEq, Int.reduceLT, Int.reduceLE, sttF, List.length_map, fp_47_0, fp_47_1, fp_47_2, fp_47_3, hB.1, hB.2.1, hB.2.2.1, hB.2.2.2.1, hB.2.2.2.2, txt_dec, nat_eq0, nat_eq1]
  have e0 := patR_eq p
  have e1 := patT_eq p
  unfold patHd at e0
  unfold patTH at e1
  have eL : ∀ g : p.l.length = 0, patsRt p.l = true := fun g => by rw [List.eq_nil_of_length_eq_zero g]; rfl
  have L14 : p.k = 1 → ∀ (r : Bool) H2 nx2, St (frB fr nx p.v.cells.toList 47) bp nx0 H0 l0 b0 r [] 0 H2 nx2 → r = patR p → WqR P pl X0 (.jump (l130_14 (ptr bp) H2 nx2)) nx0 H0 (Done fr bp nx0 H0 l0 b0 (patR p) (patT p) (8 * p.z - 4)) := by
    intro hk r H2 nx2 hS2 hr
    refine Wq.jmp (q130_14 ..) (fun _ => rfl) ?_
    refine Wq.sgn [95] hS2 (by omega) fun u H3 nx3 hS3 => ?_
    exact Wq.done hS3.drop hr (fun _ => by rw [e1, if_pos hk]; rfl) (by omega)
  have L20 : p.k = 2 → ∀ (r : Bool) H2 nx2, St (frB fr nx p.v.cells.toList 47) bp nx0 H0 l0 b0 r [] 0 H2 nx2 → r = (decide (p.l.length = 0) && decide (p.n = 0)) → WqR P pl X0 (.jump (l130_20 (ptr bp) (.pointer (some ⟨nx, 0, none⟩)) H2 nx2)) nx0 H0 (Done fr bp nx0 H0 l0 b0 (patR p) (patT p) (8 * p.z - 4)) := by
    intro hk r H2 nx2 hS2 hr
    have hB := PB_of (p := p) hS2.get
    refine Wq.jmp (q130_20 ..) (fun _ => rfl) ?_
    simp only [stpF, cond_true, cond_false, eq_self, List.length_nil, Int.reduceEq, Int.reduceLT, Int.reduceLE, fp_47_2, hB.2.2.1, bd_31_t]
    refine Wq.putS (put_132 ⟨3, p.s, 0, 0⟩ (sLt hp.2.1)) rfl hS2 (by omega) fun u H3 nx3 hS3 => ?_
    refine Wq.done hS3.drop ?_ (fun _ => by rw [e1, hk]; rfl) (by omega)
    rw [e0, hk, hr]
    show _ = (patsRt p.l && (decide (p.n = 0) && (tokOk ⟨3, p.s, 0, 0⟩ && decide (p.l.length = 0))))
    by_cases g : p.l.length = 0
    · rw [eL g]; cases decide (p.n = 0) <;> simp [g]
    · simp [g]
  have L38 : p.k = 4 → ∀ (r : Bool) H2 nx2, St (frB fr nx p.v.cells.toList 47) bp nx0 H0 l0 b0 r [] 0 H2 nx2 → r = (decide (p.l.length = 0) && decide (p.n = 0)) → WqR P pl X0 (.jump (l130_38 (ptr bp) (.pointer (some ⟨nx, 0, none⟩)) H2 nx2)) nx0 H0 (Done fr bp nx0 H0 l0 b0 (patR p) (patT p) (8 * p.z - 4)) := by
    intro hk r H2 nx2 hS2 hr
    have hB := PB_of (p := p) hS2.get
    refine Wq.jmp (q130_38 ..) (fun _ => rfl) ?_
    simp only [stpF, cond_true, cond_false, eq_self, List.length_nil, Int.reduceEq, Int.reduceLT, Int.reduceLE, fp_47_2, hB.2.2.1, bd_31_t]
    refine Wq.putS (put_132 ⟨2, p.s, 0, 0⟩ (sLt hp.2.1)) rfl hS2 (by omega) fun u H3 nx3 hS3 => ?_
    refine Wq.done hS3.drop ?_ (fun _ => by rw [e1, hk]; rfl) (by omega)
    rw [e0, hk, hr]
    show _ = (patsRt p.l && (decide (p.n = 0) && decide (p.l.length = 0)))
    have : tokOk ⟨2, p.s, 0, 0⟩ = true := by simp [tokOk]
    rw [this]
    by_cases g : p.l.length = 0
    · rw [eL g]; cases decide (p.n = 0) <;> simp [g]
    · simp [g]
  have L44 : p.k = 5 → ∀ (r : Bool) H2 nx2, St (frB fr nx p.v.cells.toList 47) bp nx0 H0 l0 b0 r [] 0 H2 nx2 → r = (!decide (p.l.length = 1) && (decide (p.s = []) && decide (p.n = 0))) → WqR P pl X0 (.jump (l130_44 (ptr bp) (.pointer (some ⟨nx, 0, none⟩)) H2 nx2)) nx0 H0 (Done fr bp nx0 H0 l0 b0 (patR p) (patT p) (8 * p.z - 4)) := by
    intro hk r H2 nx2 hS2 hr
    refine Wq.jmp (q130_44 ..) (fun _ => rfl) ?_
    refine Wq.sgn [40] hS2 (by omega) fun u H3 nx3 hS3 => ?_
    have hB := PB_of (p := p) hS3.get
    simp only [stpF, cond_true, cond_false, eq_self, List.length_nil, Int.reduceEq, Int.reduceLT, Int.reduceLE, fp_47_3, hB.2.2.2.1]
    refine Wq.putS h162 rfl hS3 (by omega) fun u H4 nx4 hS4 => ?_
    refine Wq.sgn [41] hS4 (by omega) fun u H5 nx5 hS5 => ?_
    refine Wq.done hS5.drop ?_ (fun _ => ?_) (by omega)
    · rw [e0, hk, hr]
      show _ = (patsRt p.l && (decide (p.n = 0) && (decide (p.s = []) && !decide (p.l.length = 1))))
      cases patsRt p.l <;> cases decide (p.n = 0) <;> cases decide (p.s = []) <;> cases decide (p.l.length = 1) <;> rfl
    · rw [e1, hk, tokL_map]
      simp
      rfl
  have L26 : p.k = 3 → ∀ (r : Bool) H2 nx2, St (frB fr nx p.v.cells.toList 47) bp nx0 H0 l0 b0 r [] 0 H2 nx2 → r = (decide (p.l.length = 0) && (decide (p.s = []) && decide (-4611686018427387903 ≤ p.n))) → WqR P pl X0 (.jump (l130_26 (ptr bp) (.pointer (some ⟨nx, 0, none⟩)) H2 nx2)) nx0 H0 (Done fr bp nx0 H0 l0 b0 (patR p) (patT p) (8 * p.z - 4)) := by
    intro hk r H2 nx2 hS2 hr
    have hB := PB_of (p := p) hS2.get
    have e2 : patR p = (r && decide (p.n ≤ 4611686018427387903)) := by
      rw [e0, hk, hr]
      show (patsRt p.l && (decide (p.s = []) && (decide (p.l.length = 0) && (decide (-4611686018427387903 ≤ p.n) && decide (p.n ≤ 4611686018427387903))))) = _
      by_cases g : p.l.length = 0
      · rw [eL g]; cases decide (p.s = []) <;> simp [g]
      · simp [g]
    have e3 : patT p = if p.n < 0 then [sgT [126], ⟨1, [], -p.n, 0⟩] else [⟨1, [], p.n, 0⟩] := by rw [e1, hk]; rfl
    have L28 : ∀ c : Bool, c = (decide (p.n < 0) && !(b0 || !r)) → WqR P pl X0 (.jump (l130_28 (ptr bp) (.pointer (some ⟨nx, 0, none⟩)) c H2 nx2)) nx0 H0 (Done fr bp nx0 H0 l0 b0 (patR p) (patT p) (8 * p.z - 4)) := by
      intro c hc
      refine Wq.jmp (q130_28 ..) (fun _ => rfl) ?_
      cases c with
      | true =>
        have hc' := hc.symm
        rw [Bool.and_eq_true, decide_eq_true_eq, Bool.not_eq_true', Bool.or_eq_false_iff, Bool.not_eq_false'] at hc'
        obtain ⟨hneg, hb0, hr1⟩ := hc'
        simp only [stpF, cond_true, cond_false, eq_self, List.length_nil, Int.reduceEq, Int.reduceLT, Int.reduceLE]
        have hge : -4611686018427387903 ≤ p.n := by
          rw [hr1] at hr
          have := hr.symm
          rw [Bool.and_eq_true, Bool.and_eq_true, decide_eq_true_eq, decide_eq_true_eq, decide_eq_true_eq] at this
          exact this.2.2
        refine Wq.sgn [126] hS2 (by omega) fun u H3 nx3 hS3 => ?_
        have hB := PB_of (p := p) hS3.get
        simp only [stpF, cond_true, cond_false, eq_self, List.length_nil, Int.reduceEq, Int.reduceLT, Int.reduceLE, fp_47_1, hB.2.1, unV_neg]
        rw [wrap_id (show -9223372036854775808 ≤ 0 - p.n ∧ 0 - p.n < 9223372036854775808 by omega)]
        refine Wq.putB (off := 1) (c' := (Pat.mk p.k (0 - p.n) p.s p.l).cs) (u := i64 (0 - p.n)) hS3 hn0 hne sz_2 rfl rfl (by show 1 < p.cs.length; rw [Pat.cs_eq]; simp) (by show p.cs.set 1 _ = _; rw [Pat.cs_eq, Pat.cs_eq]; rfl) fun H4 hS4 => ?_
        have hB4 := PB_of (p := Pat.mk p.k (0 - p.n) p.s p.l) hS4.get
        have hv : rdLoad P H4 2 (some (.pointer (some ⟨nx, 1, none⟩))) = some (i64 (0 - p.n)) := hB4.2.1
        simp only [stpF, cond_true, cond_false, eq_self, List.length_nil, Int.reduceEq, Int.reduceLT, Int.reduceLE, fp_47_1, hv, bd_31_n]
        refine Wq.putS (put_132 ⟨1, [], 0 - p.n, 0⟩ (by simp)) rfl hS4 (by omega) fun u H5 nx5 hS5 => ?_
        refine Wq.done hS5.drop ?_ (fun _ => ?_) (by omega)
        · rw [e2, hr1]
          have : tokOk ⟨1, [], 0 - p.n, 0⟩ = true := by
            unfold tokOk
            simp
            omega
          rw [this]
          simp
          omega
        · rw [e3, if_pos hneg]
          simp
      | false =>
        simp only [stpF, cond_true, cond_false, eq_self, List.length_nil, Int.reduceEq, Int.reduceLT, Int.reduceLE, fp_47_1, hB.2.1, bd_31_n]
        refine Wq.putS (put_132 ⟨1, [], p.n, 0⟩ (by simp)) rfl hS2 (by omega) fun u H5 nx5 hS5 => ?_
        have et : tokOk ⟨1, [], p.n, 0⟩ = (decide (0 ≤ p.n) && decide (p.n ≤ 4611686018427387903)) := by
          unfold tokOk
          simp
        by_cases hneg : p.n < 0
        · have hb : (b0 || !r) = true := by clear hS2 hS5; cases b0 <;> cases r <;> simp [hneg] at hc ⊢
          have e4 : tokOk ⟨1, [], p.n, 0⟩ = false := by
            rw [et]; simp; omega
          refine Wq.skip hS5.drop (by rw [e4]; simp) (fun g1 _ => ?_) (by omega)
          rw [g1] at hb
          have : r = false := by simpa using hb
          rw [e2, this]; rfl
        · refine Wq.done hS5.drop ?_ (fun _ => by rw [e3, if_neg hneg]; simp) (by omega)
          rw [e2, et]
          have : decide (0 ≤ p.n) = true := by simp; omega
          rw [this, Bool.true_and]
    refine Wq.jmp (q130_26 ..) (fun _ => rfl) ?_
    simp only [stpF, cond_true, cond_false, eq_self, List.length_nil, Int.reduceEq, Int.reduceLT, Int.reduceLE, fp_47_1, hB.2.1]
    refine Wq.ite (fun g => ?_) (fun g => ?_)
    · simp only [stpF, cond_true, cond_false, eq_self, List.length_nil, Int.reduceEq, Int.reduceLT, Int.reduceLE, fp_116_1, hS2.bad]
      exact L28 _ (by simp [g])
    · exact L28 _ (by simp [g])
  refine Wq.ite (fun hk => ?_) (fun h1 => ?_)
  · have e2 : patR p = (decide (p.l.length = 0) && (decide (p.s = []) && decide (p.n = 0))) := by
      rw [e0, if_pos hk, hk]
      show (patsRt p.l && (decide (p.n = 0) && (decide (p.s = []) && decide (p.l.length = 0)))) = _
      by_cases g : p.l.length = 0
      · rw [eL g]; cases decide (p.n = 0) <;> simp [g]
      · simp [g]
    have F : ∀ c : Bool, c = (decide (p.l.length = 0) && (decide (p.s = []) && decide (p.n = 0))) → WqR P pl X0 (callQ (.call 127 [ptr bp, .bool c] false none H1 (nx + 1)) (fun x H' nx' => .jump (l130_14 (ptr bp) H' nx')) panK) nx0 H0 (Done fr bp nx0 H0 l0 b0 (patR p) (patT p) (8 * p.z - 4)) := by
      intro c hc
      refine Wq.putS (put_127 c) rfl hS1 (by omega) fun u H2 nx2 hS2 => ?_
      exact L14 hk _ _ _ hS2 (by rw [e2, hc]; simp)
    refine Wq.ite (fun g => ?_) (fun g => F _ (by simp [g]))
    refine Wq.ite (fun g2 => ?_) (fun g2 => F _ (by simp [g2]))
    exact F _ (by simp [g, g2])
  rw [if_neg h1] at e1
  refine Wq.ite (fun hk => ?_) (fun h2 => ?_)
  · have F : ∀ c : Bool, c = (decide (p.l.length = 0) && decide (p.n = 0)) → WqR P pl X0 (callQ (.call 127 [ptr bp, .bool c] false none H1 (nx + 1)) (fun x H' nx' => .jump (l130_20 (ptr bp) (.pointer (some ⟨nx, 0, none⟩)) H' nx')) panK) nx0 H0 (Done fr bp nx0 H0 l0 b0 (patR p) (patT p) (8 * p.z - 4)) := by
      intro c hc
      refine Wq.putS (put_127 c) rfl hS1 (by omega) fun u H2 nx2 hS2 => ?_
      exact L20 hk _ _ _ hS2 hc
    refine Wq.ite (fun g => ?_) (fun g => F _ (by simp [g]))
    exact F _ (by simp [g])
  rw [if_neg h2] at e1
  refine Wq.ite (fun hk => ?_) (fun h3 => ?_)
  · have F : ∀ c : Bool, c = (decide (p.l.length = 0) && (decide (p.s = []) && decide (-4611686018427387903 ≤ p.n))) → WqR P pl X0 (callQ (.call 127 [ptr bp, .bool c] false none H1 (nx + 1)) (fun x H' nx' => .jump (l130_26 (ptr bp) (.pointer (some ⟨nx, 0, none⟩)) H' nx')) panK) nx0 H0 (Done fr bp nx0 H0 l0 b0 (patR p) (patT p) (8 * p.z - 4)) := by
      intro c hc
      refine Wq.putS (put_127 c) rfl hS1 (by omega) fun u H2 nx2 hS2 => ?_
      exact L26 hk _ _ _ hS2 hc
    refine Wq.ite (fun g => ?_) (fun g => F _ (by simp [g]))
    refine Wq.ite (fun g2 => ?_) (fun g2 => F _ (by simp [g2]))
    exact F _ (by simp [g, g2])
  rw [if_neg h3] at e1
  refine Wq.ite (fun hk => ?_) (fun h4 => ?_)
  · have F : ∀ c : Bool, c = (decide (p.l.length = 0) && decide (p.n = 0)) → WqR P pl X0 (callQ (.call 127 [ptr bp, .bool c] false none H1 (nx + 1)) (fun x H' nx' => .jump (l130_38 (ptr bp) (.pointer (some ⟨nx, 0, none⟩)) H' nx')) panK) nx0 H0 (Done fr bp nx0 H0 l0 b0 (patR p) (patT p) (8 * p.z - 4)) := by
      intro c hc
      refine Wq.putS (put_127 c) rfl hS1 (by omega) fun u H2 nx2 hS2 => ?_
      exact L38 hk _ _ _ hS2 hc
    refine Wq.ite (fun g => ?_) (fun g => F _ (by simp [g]))
    exact F _ (by simp [g])
  rw [if_neg h4] at e1
  refine Wq.ite (fun hk => ?_) (fun h5 => ?_)
  · have F : ∀ c : Bool, c = (!decide (p.l.length = 1) && (decide (p.s = []) && decide (p.n = 0))) → WqR P pl X0 (callQ (.call 127 [ptr bp, .bool c] false none H1 (nx + 1)) (fun x H' nx' => .jump (l130_44 (ptr bp) (.pointer (some ⟨nx, 0, none⟩)) H' nx')) panK) nx0 H0 (Done fr bp nx0 H0 l0 b0 (patR p) (patT p) (8 * p.z - 4)) := by
      intro c hc
      refine Wq.putS (put_127 c) rfl hS1 (by omega) fun u H2 nx2 hS2 => ?_
      exact L44 hk _ _ _ hS2 hc
    refine Wq.nite (fun g => ?_) (fun g => F _ (by simp [g]))
    refine Wq.ite (fun g2 => ?_) (fun g2 => F _ (by simp [g2]))
    exact F _ (by simp [g, g2])
  rw [if_neg h5] at e1
  refine Wq.ite (fun hk => ?_) (fun h6 => ?_)
  · refine Wq.putS (h163 hk) rfl hS1 (by omega) fun u H2 nx2 hS2 => ?_
    exact Wq.done hS2.drop (by simp) (fun _ => by simp) (by omega)
  · rw [if_neg h6] at e1
    have e2 : patR p = false := by
      rw [e0, if_neg h1, if_neg h2, if_neg h3, if_neg h4, if_neg h5, if_neg h6]; simp
    refine Wq.bad hS1 fun H2 hS2 => ?_
    exact Wq.done hS2.drop e2.symm (fun q => by rw [e2] at q; cases q) (by omega)
theorem pat_both (p : Pat) (hp : p.ok) : Put 130 [p.v] (patR p) (patT p) (8 * p.z - 4) ∧ Put 133 [p.v] (patR p) (patPT p) (8 * p.z - 2) ∧ ∀ a, a ∈ p.l → Put 133 [a.v] (patR a) (patPT a) (8 * a.z - 2) := by
  refine Pat.ind (p := fun p => p.ok → Put 130 [p.v] (patR p) (patT p) (8 * p.z - 4) ∧ Put 133 [p.v] (patR p) (patPT p) (8 * p.z - 2) ∧ ∀ a, a ∈ p.l → Put 133 [a.v] (patR a) (patPT a) (8 * a.z - 2)) (fun p ih hp => ?_) p hp
  have hp' := (Pat.ok_iff p).1 hp
  have h1 : ∀ a, a ∈ p.l → Put 133 [a.v] (patR a) (patPT a) (8 * a.z - 2) := fun a ha => (ih a ha (hp'.2.2.2 a ha)).2.1
  have h := put_130a p hp (put_162 p.l hp'.2.2.1 h1) fun hk => put_163 p hk hp h1 fun q hq => (ih q hq (hp'.2.2.2 q hq)).2.2
  exact ⟨h, put_133 p h, h1⟩
theorem put_130 (p : Pat) (hp : p.ok) : Put 130 [p.v] (patR p) (patT p) (8 * p.z - 4) := (pat_both p hp).1
theorem put_133' (p : Pat) (hp : p.ok) : Put 133 [p.v] (patR p) (patPT p) (8 * p.z - 2) := (pat_both p hp).2.1
end
end Go.Proofs.YthjhonhhbddhkaaGreatDoor
