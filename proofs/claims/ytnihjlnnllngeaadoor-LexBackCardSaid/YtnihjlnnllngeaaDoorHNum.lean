/- num.Text: what it makes of a number: its sign and its digits; the walk over its row of twenty bytes. -/
import Derived.Test.YtnihjlnnllngeaaDoorProg
import Derived.Test.YtnihjlnnllngeaaDoorA0
import Derived.WalkKit
import Derived.KernelRfl
import Derived.Laws.BytesArg
import Derived.Laws.Rows
namespace Go.Proofs.YtnihjlnnllngeaaDoorW.PrintWords
open Go.RowKit
/-- The digits of u, in front of some. -/
def decD : Nat → Nat → List Int → List Int
  | 0, _, acc => acc
  | f + 1, u, acc => if u / 10 = 0 then (48 + (u : Int) % 10) :: acc else decD f (u / 10) ((48 + (u : Int) % 10) :: acc)
/-- A number's text, as bytes. -/
def numL (n : Int) : List Int := if n < 0 then 45 :: decD 19 n.natAbs [] else decD 19 n.natAbs []
def num_Text.f (a0 : Int) : Option ByteArray := if -9223372036854775808 ≤ a0 ∧ a0 ≤ 9223372036854775807 then some (strOfNums (numL a0)) else none

theorem bytes_run {W : World} {g : Nat} {cs : List Value} {ds : List Int} {k : Nat} {t : TypeId} (hb : W.heap[g]? = some (.cells cs.toArray t (0, 0))) (hd : cs.drop k = ds.map (Value.int .u8)) (n c : Nat) (hn : ds.length = n) :
    (convert 30 9 (.slice (some ⟨g, k, none⟩) n c)).run Tryd.prog W = .ok (.string (strOfNums ds)) W :=
  run_convert_bytes_arg W 30 5 Tryd.underlying30 Tryd.underlying5 g k n c ds hn (fun i hi => by
    rw [cell_of_row W g (k + i) cs.toArray t (0, 0) hb]
    have h1 : (cs.drop k)[i]? = (ds.map (Value.int .u8))[i]? := by rw [hd]
    rw [List.getElem?_drop, List.getElem?_map] at h1
    rw [List.getElem?_toArray, h1, List.getD_eq_getElem?_getD, List.getElem?_eq_getElem (show i < ds.length by omega)]
    rfl) 9 Tryd.underlying9

theorem put_row {W : World} {g k : Nat} {cs : List Value} {t : TypeId} (v : Value) (hb : W.heap[g]? = some (.cells cs.toArray t (0, 0))) :
    (W.setCell ⟨g, k, none⟩ v).heap[g]? = some (.cells (cs.set k v).toArray t (0, 0)) := by
  have := blk_set hb k v
  simpa using this

theorem drop_put {cs : List Value} {k : Nat} {v : Value} {l : List Value} (hk : k < cs.length) (h : cs.drop (k + 1) = l) : (cs.set k v).drop k = v :: l := by
  rw [← h, List.drop_eq_getElem_cons (by simpa using hk), List.drop_set_of_lt (by omega)]
  simp

/-- Where the digits stand: what is still to be written, and what is written. -/
structure At (N x k : Nat) (ds : List Int) : Prop where
  pos : 2 ≤ k
  low : k ≤ 20
  small : x < 10 ^ (k - 1)
  rest : decD (k - 1) x ds = decD 19 N []
  len : ds.length = 20 - k

theorem At.begin {N : Nat} (h : N ≤ 9223372036854775808) : At N N 20 [] :=
  ⟨by omega, by omega, by have : (10 : Nat) ^ (20 - 1) = 10000000000000000000 := by decide
                          omega, rfl, rfl⟩
theorem At.next {N x k : Nat} {ds : List Int} (h : At N x k ds) (hx : ¬ x / 10 = 0) : At N (x / 10) (k - 1) ((48 + (x : Int) % 10) :: ds) := by
  obtain ⟨h1, h2, h3, h4, h5⟩ := h
  obtain ⟨m, rfl⟩ : ∃ m, k = m + 2 := ⟨k - 2, by omega⟩
  have h6 : x < 10 ^ (m + 1) := h3
  rw [Nat.pow_succ] at h6
  have h7 : x / 10 < 10 ^ m := by omega
  have hm : 1 ≤ m := by
    rcases Nat.eq_zero_or_pos m with h | h
    · subst h; simp at h7; omega
    · exact h
  refine ⟨by omega, by omega, h7, ?_, by simp only [List.length_cons]; omega⟩
  rw [← h4]
  show _ = decD (m + 1) x ds
  simp only [decD, hx, if_false]
  rfl
theorem At.done {N x k : Nat} {ds : List Int} (h : At N x k ds) (hx : x / 10 = 0) : (48 + (x : Int) % 10) :: ds = decD 19 N [] := by
  obtain ⟨h1, h2, h3, h4, h5⟩ := h
  obtain ⟨m, rfl⟩ : ∃ m, k = m + 2 := ⟨k - 2, by omega⟩
  rw [← h4]
  show _ = decD (m + 1) x ds
  simp only [decD, hx, if_true]
theorem quo_u64 (x : Nat) (h : x < 10 ^ 19) : IntKind.u64.wrap ((x : Int) / 10) = ((x / 10 : Nat) : Int) := by
  have : (10 : Nat) ^ 19 = 10000000000000000000 := by decide
  simp only [IntKind.wrap, IntKind.signed, IntKind.bits]
  simp
  omega
theorem At.le {N x k : Nat} {ds : List Int} (h : At N x k ds) : x < 10 ^ 19 :=
  Nat.lt_of_lt_of_le h.small (Nat.pow_le_pow_right (by omega) (by have := h.low; omega))

theorem slice_run {g : Nat} (i : Int) (k : Nat) (he : i = k) (hk : k ≤ 19) (W : World) :
    (Instr.sliceAt 72 (.pointer (some ⟨g, 0, none⟩)) (some (.int .i64 i)) none none).run Tryd.prog W = .ok (.slice (some ⟨g, k, none⟩) (20 - k) (20 - k)) W := by
  subst he
  have h0 : (0 : Int) ≤ (k : Int) := by omega
  have h1 : (k : Int) ≤ 20 := by omega
  simp [Instr.sliceAt, Instr.sureAddr, run_underlying Tryd.underlying72, Instr.sliceBounds, run_sliceBound, h1]
  rw [if_neg (by omega)]
  simp [Addr.add]
  exact fun e => e.symm

set_option maxHeartbeats 1600000 in
set_option maxRecDepth 100000 in
theorem neg_ (a0 : Int) (w : World) (h0 : decide (a0 < 0) = true) (hN : Aside0 (IntKind.u64.wrap (-IntKind.u64.wrap a0) = (a0.natAbs : Int))) (hb : Aside0 (a0.natAbs ≤ 9223372036854775808)) :
    Calls Tryd.prog 35 #[.int .i64 a0] w fun e w' => e = .returned (.string (strOfNums (45 :: decD 19 a0.natAbs []))) ∧ Below w.heap.size w w' := by
  go_enter Tryd.func35, Tryd.ntmps35
  go_wp2
  go_loopw [3, 5] (fun u i wr => ∃ (x : Nat) (k : Nat) (cs : List Value) (ds : List Int), u = .int .u64 x ∧ i = .int .i64 k ∧ Aside0 (At a0.natAbs x k ds) ∧ Aside0 (cs.length = 20 ∧ cs.drop k = ds.map (Value.int .u8)) ∧ Aside0 (wr.heap[w.heap.size]? = some (.cells cs.toArray 72 (0, 0))) ∧ Aside0 (Below w.heap.size w wr)) (fun _ i _ => (intOf i).toNat)
  case atStart =>
    exact ⟨a0.natAbs, 20, List.replicate 20 (.int .u8 0), [], by rw [hN.out], rfl, ⟨At.begin hb.out⟩, ⟨by simp, rfl⟩, ⟨by simpa using heap_alloc_new w _⟩, ⟨below_alloc (Below.refl _ _) _⟩⟩
  case round =>
    obtain ⟨x, k, cs, ds, rfl, rfl, hA, hc, hbk, hB⟩ := hrel
    have hk2 := hA.out.pos
    have hk20 := hA.out.low
    have hcell : wr.cell? ⟨w.heap.size, k - 1, none⟩ = some (cs.getD (k - 1) undef) := by
      rw [cell_of_row wr w.heap.size _ _ _ _ hbk.out]; simp [List.getD_eq_getElem?_getD, List.getElem?_eq_getElem (show k - 1 < cs.length by rw [hc.out.1]; omega)]
    have hf := frozen_of_row wr w.heap.size (k - 1) _ _ hbk.out
    have hcell2 : (wr.setCell ⟨w.heap.size, k - 1, none⟩ (.int .u8 (48 + (x : Int) % 10))).cell? ⟨w.heap.size, k - 1 - 1, none⟩ = some (cs.getD (k - 1 - 1) undef) := by
      rw [cell_of_row _ w.heap.size _ _ _ _ (put_row _ hbk.out), List.getElem?_toArray, List.getElem?_set_ne (by omega), List.getD_eq_getElem?_getD, List.getElem?_eq_getElem (show k - 1 - 1 < cs.length by rw [hc.out.1]; omega)]; rfl
    have hf2 := frozen_of_row _ w.heap.size (k - 1 - 1) _ _ (put_row (k := k - 1) (.int .u8 (48 + (x : Int) % 10)) hbk.out)
    have h3 := eq_true (show (k : Int) - 1 < 20 by omega)
    have h4 := eq_true (show 0 ≤ (k : Int) - 1 by omega)
    have h5 := eq_true (show (k : Int) - 1 - 1 < 20 by omega)
    have h6 := eq_true (show 0 ≤ (k : Int) - 1 - 1 by omega)
    have h7 := eq_true (show (k : Int) - 1 - 1 ≤ 20 by omega)
    by_cases hx : x / 10 = 0
    · have hq : (IntKind.u64.wrap ((x : Int) / 10) == 0) = true := by rw [quo_u64 x hA.out.le, hx]; rfl
      have hrow := Aside0.mk (put_row (k := k - 1 - 1) (.int .u8 45) (put_row (k := k - 1) (.int .u8 (48 + (x : Int) % 10)) hbk.out))
      have hds := Aside0.mk (hA.out.done hx)
      have hdrop : Aside0 (((cs.set (k - 1) (.int .u8 (48 + (x : Int) % 10))).set (k - 1 - 1) (.int .u8 45)).drop (k - 1 - 1) = ((45 : Int) :: decD 19 a0.natAbs []).map (Value.int .u8)) := by
        refine ⟨?_⟩
        rw [← hds.out]
        refine drop_put (by simp [hc.out.1]; omega) ?_
        rw [show k - 1 - 1 + 1 = k - 1 by omega]
        refine drop_put (by simp [hc.out.1]; omega) ?_
        rw [show k - 1 + 1 = k by omega]
        exact hc.out.2
      have hsl := fun W => slice_run (g := w.heap.size) ((k : Int) - 1 - 1) (k - 1 - 1) (by omega) (by omega) W
      have hcv := fun c => bytes_run hrow.out hdrop.out (20 - (k - 1 - 1)) c (by rw [← hds.out]; simp [hA.out.len]; omega)
      clear hx
      go_wp2
      go_ret
      exact ⟨rfl, below_set (g := w.heap.size) (below_set (g := w.heap.size) hB.out (Nat.le_refl _)) (Nat.le_refl _)⟩
    · have hq : (IntKind.u64.wrap ((x : Int) / 10) == 0) = false := by rw [quo_u64 x hA.out.le]; exact beq_eq_false_iff_ne.mpr (fun e => hx (by omega))
      have hA2 := Aside0.mk (hA.out.next hx)
      have hq2 := Aside0.mk (quo_u64 x hA.out.le)
      clear hx
      go_wp2
      go_roundw
      case rel =>
        refine ⟨x / 10, k - 1, cs.set (k - 1) (.int .u8 (48 + (x : Int) % 10)), (48 + (x : Int) % 10) :: ds, by rw [hq2.out], by go_num, hA2, ⟨by simp [hc.out.1], ?_⟩, ⟨put_row _ hbk.out⟩, ⟨below_set (g := w.heap.size) hB.out (Nat.le_refl _)⟩⟩
        refine drop_put (by simp [hc.out.1]; omega) ?_
        rw [show k - 1 + 1 = k by omega]
        exact hc.out.2
      case measure => simp [intOf]; omega
set_option maxHeartbeats 1600000 in
set_option maxRecDepth 100000 in
theorem pos_ (a0 : Int) (w : World) (h0 : decide (a0 < 0) = false) (hN : Aside0 (IntKind.u64.wrap a0 = (a0.natAbs : Int))) (hb : Aside0 (a0.natAbs ≤ 9223372036854775808)) :
    Calls Tryd.prog 35 #[.int .i64 a0] w fun e w' => e = .returned (.string (strOfNums (decD 19 a0.natAbs []))) ∧ Below w.heap.size w w' := by
  go_enter Tryd.func35, Tryd.ntmps35
  go_wp2
  go_loopw [3, 5] (fun u i wr => ∃ (x : Nat) (k : Nat) (cs : List Value) (ds : List Int), u = .int .u64 x ∧ i = .int .i64 k ∧ Aside0 (At a0.natAbs x k ds) ∧ Aside0 (cs.length = 20 ∧ cs.drop k = ds.map (Value.int .u8)) ∧ Aside0 (wr.heap[w.heap.size]? = some (.cells cs.toArray 72 (0, 0))) ∧ Aside0 (Below w.heap.size w wr)) (fun _ i _ => (intOf i).toNat)
  case atStart =>
    exact ⟨a0.natAbs, 20, List.replicate 20 (.int .u8 0), [], by rw [hN.out], rfl, ⟨At.begin hb.out⟩, ⟨by simp, rfl⟩, ⟨by simpa using heap_alloc_new w _⟩, ⟨below_alloc (Below.refl _ _) _⟩⟩
  case round =>
    obtain ⟨x, k, cs, ds, rfl, rfl, hA, hc, hbk, hB⟩ := hrel
    have hk2 := hA.out.pos
    have hk20 := hA.out.low
    have hcell : wr.cell? ⟨w.heap.size, k - 1, none⟩ = some (cs.getD (k - 1) undef) := by
      rw [cell_of_row wr w.heap.size _ _ _ _ hbk.out]; simp [List.getD_eq_getElem?_getD, List.getElem?_eq_getElem (show k - 1 < cs.length by rw [hc.out.1]; omega)]
    have hf := frozen_of_row wr w.heap.size (k - 1) _ _ hbk.out
    have h3 := eq_true (show (k : Int) - 1 < 20 by omega)
    have h4 := eq_true (show 0 ≤ (k : Int) - 1 by omega)
    by_cases hx : x / 10 = 0
    · have hq : (IntKind.u64.wrap ((x : Int) / 10) == 0) = true := by rw [quo_u64 x hA.out.le, hx]; rfl
      have hrow := Aside0.mk (put_row (k := k - 1) (.int .u8 (48 + (x : Int) % 10)) hbk.out)
      have hds := Aside0.mk (hA.out.done hx)
      have hdrop : Aside0 ((cs.set (k - 1) (.int .u8 (48 + (x : Int) % 10))).drop (k - 1) = (decD 19 a0.natAbs []).map (Value.int .u8)) := by
        refine ⟨?_⟩
        rw [← hds.out]
        refine drop_put (by simp [hc.out.1]; omega) ?_
        rw [show k - 1 + 1 = k by omega]
        exact hc.out.2
      have hsl := fun W => slice_run (g := w.heap.size) ((k : Int) - 1) (k - 1) (by omega) (by omega) W
      have hcv := fun c => bytes_run hrow.out hdrop.out (20 - (k - 1)) c (by rw [← hds.out]; simp [hA.out.len]; omega)
      clear hx
      go_wp2
      go_ret
      exact ⟨rfl, below_set (g := w.heap.size) hB.out (Nat.le_refl _)⟩
    · have hq : (IntKind.u64.wrap ((x : Int) / 10) == 0) = false := by rw [quo_u64 x hA.out.le]; exact beq_eq_false_iff_ne.mpr (fun e => hx (by omega))
      have hA2 := Aside0.mk (hA.out.next hx)
      have hq2 := Aside0.mk (quo_u64 x hA.out.le)
      clear hx
      go_wp2
      go_roundw
      case rel =>
        refine ⟨x / 10, k - 1, cs.set (k - 1) (.int .u8 (48 + (x : Int) % 10)), (48 + (x : Int) % 10) :: ds, by rw [hq2.out], by go_num, hA2, ⟨by simp [hc.out.1], ?_⟩, ⟨put_row _ hbk.out⟩, ⟨below_set (g := w.heap.size) hB.out (Nat.le_refl _)⟩⟩
        refine drop_put (by simp [hc.out.1]; omega) ?_
        rw [show k - 1 + 1 = k by omega]
        exact hc.out.2
      case measure => simp [intOf]; omega

theorem num_Text.calls (a0 : Int) (r : ByteArray) (w : World) (h : num_Text.f a0 = some r) :
    Calls Tryd.prog 35 #[.int .i64 a0] w fun e w' => e = .returned (.string r) ∧ Below w.heap.size w w' := by
  unfold num_Text.f at h
  split at h
  · rename_i hr
    have h2 : strOfNums (numL a0) = r := by simpa using h
    subst h2
    unfold numL
    by_cases h0 : a0 < 0
    · rw [if_pos h0]
      exact neg_ a0 w (decide_eq_true h0) ⟨by simp only [IntKind.wrap, IntKind.signed, IntKind.bits]; simp; omega⟩ ⟨by omega⟩
    · rw [if_neg h0]
      exact pos_ a0 w (decide_eq_false h0) ⟨by simp only [IntKind.wrap, IntKind.signed, IntKind.bits]; simp; omega⟩ ⟨by omega⟩
  · cases h
end Go.Proofs.YtnihjlnnllngeaaDoorW.PrintWords
