/- A token as an argument: what it is, and that it is still that. -/
import Derived.Test.YtnihjlnnllngeaaDoorF0
import Derived.WalkKit
import Derived.ProofKit
import Derived.OpenShut
import Derived.ShutString
import Derived.ChangeOld
import Derived.ChangeSame
import Derived.Deep.Slices
import Derived.DataElems
import Derived.Below
namespace Go.Proofs.YtnihjlnnllngeaaDoor.PL
open Go.ChangeShapes Go.WideShapes Go.ChangeAt Go.RowKit Go.Proofs.YtnihjlnnllngeaaDoorW.PrintWords
open Go.Deep (open_slice shut_slice shut_slice_whole)
set_option linter.unusedVariables false
set_option linter.unusedSimpArgs false
section
variable {H : Type} {enc : TypeId × Value → H} {w : World} {base : Nat} {sp : Nat → Bool} {held : Bool}
/-- A token's cells. -/
def tokC (t : S32) : List Value := [.int .i64 t.f0, .string t.f1, .int .i64 t.f2, .int .i64 t.f3]
/-- A token as data. -/
def tokD (H : Type) (t : S32) : DataW H := .agg [.lit (.int .i64 t.f0), .lit (.string t.f1.data.toList), .lit (.int .i64 t.f2), .lit (.int .i64 t.f3)]
/-- A token that is within its types' bounds. -/
def tokWf (t : S32) : Prop := (Lit.int .i64 t.f0).wf = true ∧ t.f1.size ≤ maxLen ∧ (Lit.int .i64 t.f2).wf = true ∧ (Lit.int .i64 t.f3).wf = true
theorem open_tokC {fuel : Nat} {cs : List Value} {x : DataW H × List MemPlace} (h : DataW.trod enc Tryd.prog w base sp held fuel 32 cs = some x) : ∃ t : S32, cs = tokC t ∧ x = (tokD H t, []) ∧ tokWf t := by
  obtain ⟨xs, n, rfl, rfl, hl, hlen, hf⟩ := DataW.trod_struct Tryd.underlying32 h
  have hc : Tryd.prog.cellsOf 32 = 4 := by kernel_rfl
  have c3 : Tryd.prog.cellsOf 3 = 1 := by kernel_rfl
  have c9 : Tryd.prog.cellsOf 9 = 1 := by kernel_rfl
  have c2 : Tryd.prog.cellsOf 2 = 1 := by kernel_rfl
  rw [hc] at hl
  match xs, hlen with
  | [y0, y1, y2, y3], _ =>
    match cs, hl with
    | [v0, v1, v2, v3], _ =>
      have h0 := hf 0 _ rfl
      have h1 := hf 1 _ rfl
      have h2 := hf 2 _ rfl
      have h3 := hf 3 _ rfl
      simp [c3, c9, c2] at h0 h1 h2 h3
      obtain ⟨n0, e0, rfl, w0⟩ := DataW.trod_int Tryd.underlying3 h0
      obtain ⟨s1, e1, rfl, w1⟩ := DataW.trod_string Tryd.underlying9 h1
      obtain ⟨n2, e2, rfl, w2⟩ := DataW.trod_int Tryd.underlying2 h2
      obtain ⟨n3, e3, rfl, w3⟩ := DataW.trod_int Tryd.underlying3 h3
      simp at e0 e1 e2 e3
      subst e0 e1 e2 e3
      exact ⟨⟨n0, s1, n2, n3⟩, rfl, rfl, w0, w1, w2, w3⟩
theorem shut_tokC {t : S32} (h : tokWf t) : DataW.trod enc Tryd.prog w base sp held 2 32 (tokC t) = some (tokD H t, []) := by
  obtain ⟨h0, h1, h2, h3⟩ := h
  have hc : Tryd.prog.cellsOf 32 = 4 := by kernel_rfl
  have c3 : Tryd.prog.cellsOf 3 = 1 := by kernel_rfl
  have c9 : Tryd.prog.cellsOf 9 = 1 := by kernel_rfl
  have c2 : Tryd.prog.cellsOf 2 = 1 := by kernel_rfl
  have u3 := Tryd.underlying3
  have u9 := Tryd.underlying9
  have u2 := Tryd.underlying2
  have := trod_struct_mk (enc := enc) (P := Tryd.prog) (w := w) (base := base) (spare := sp) (held := held) (n := 1) (cs := tokC t) (xs := [(.lit (.int .i64 t.f0), []), (.lit (.string t.f1.data.toList), []), (.lit (.int .i64 t.f2), []), (.lit (.int .i64 t.f3), [])]) Tryd.underlying32 (by rw [hc]; rfl)
    (by simp [tokC, DataW.trod, c3, c9, c2, u3, u9, u2, h0, h1, h2, h3])
  simpa [tokD] using this
theorem open_tok {r : Reach} {b0 : Nat} {v : Value} {d : DataW H} {ps : List MemPlace} (hval : Value.okWide Tryd.prog w r b0 32 v) (hd : DataW.Trod enc Tryd.prog w base sp held 32 v d ps) :
    ∃ t : S32, v = .agg (tokC t).toArray ∧ d = tokD H t ∧ ps = [] ∧ tokWf t := by
  obtain ⟨cs, rfl, hs⟩ := okWide_struct Tryd.underlying32 hval
  obtain ⟨fuel, hf⟩ := hd
  obtain ⟨t, e, hx, hw⟩ := open_tokC hf
  simp only [Prod.mk.injEq] at hx
  refine ⟨t, ?_, hx.1, hx.2, hw⟩
  congr 1
  have : cs.toList = tokC t := e
  rw [← this]
theorem shut_tok {t : S32} (h : tokWf t) : DataW.Trod enc Tryd.prog w base sp held 32 (.agg (tokC t).toArray) (tokD H t) [] := ⟨2, shut_tokC h⟩
theorem add_block (a : Addr) (i : Nat) : (a.add i).block = a.block := by
  unfold Addr.add; split <;> rfl
theorem cells_below {W W' : World} (hb : Below W.heap.size W W') {a : Addr} {n : Nat} {cs : List Value} (ha : a.block < W.heap.size) (h : W.cells? 0 a n = some cs) : W'.cells? 0 a n = some cs := by
  rw [← h]
  unfold World.cells?
  have e : (fun i => W'.cell? (a.add i)) = fun i => W.cell? (a.add i) := funext fun i => hb.cell (by rw [add_block]; exact ha)
  rw [e]
theorem trod_nil24 : DataW.Trod enc Tryd.prog w base sp held 24 (.slice none 0 0) .nil [] := ⟨1, by simp [DataW.trod, Value.cells, Tryd.underlying24]⟩
theorem tok_weight (t : S32) : t.f1.size ∈ (tokD H t).weights Tryd.prog 32 := by
  have : t.f1.data.toList.length = t.f1.size := by rw [Array.length_toList]; rfl
  simp [tokD, DataW.weights, Tryd.underlying32, DataW.weightsEach, this]
theorem weights_all {e : TypeId} {n : Nat} {d : DataW H} : ∀ {l : List (DataW H)}, d ∈ l → n ∈ d.weights Tryd.prog e → n ∈ DataW.weightsAll Tryd.prog e l
  | x :: r, h, hn => by
    simp only [DataW.weightsAll, List.mem_append]
    rcases List.mem_cons.1 h with rfl | h
    · exact .inl hn
    · exact .inr (weights_all h hn)
/-- A row of tokens as an argument. -/
theorem open_toks {W : World} {r : Reach} {b0 : Nat} {v : Value} {d : DataW H} {ps : List MemPlace} (hval : Value.okWide Tryd.prog W r b0 24 v) (hd : DataW.Trod enc Tryd.prog W 0 (fun _ => true) true 24 v d ps) :
    ∃ (A : Option Addr) (l : List S32) (c : Nat), v = .slice A l.length c ∧ l.length ≤ c ∧ Kd.C k32 W A l.length l ∧ (∀ t ∈ l, t.f1.size ∈ d.weights Tryd.prog 24) ∧
      ∀ W', Below W.heap.size W W' → DataW.Trod enc Tryd.prog W' 0 (fun b => decide (b < W.heap.size)) true 24 v d ps := by
  obtain ⟨A, len, c, rfl⟩ := okWide_slice Tryd.underlying24 hval
  obtain ⟨fuel, hf⟩ := hd
  have hc4 : Tryd.prog.cellsOf 32 = 4 := by kernel_rfl
  rcases open_slice Tryd.underlying24 hf with ⟨h, hx⟩ | ⟨a, len', cap, m, n, D, Pl, h, hb, hl, hm, rfl, hx, hcell⟩
  · simp [Value.cells] at h
    obtain ⟨rfl, rfl, rfl⟩ := h
    simp only [Prod.mk.injEq] at hx
    obtain ⟨rfl, rfl⟩ := hx
    exact ⟨none, [], 0, rfl, by simp, ⟨rfl, by simp, fun h => absurd h (by simp)⟩, by simp, fun _ _ => trod_nil24⟩
  · simp [Value.cells] at h
    obtain ⟨rfl, rfl, rfl⟩ := h
    rw [hc4] at hx hcell
    simp only [Prod.mk.injEq] at hx
    obtain ⟨rfl, rfl⟩ := hx
    have hex : ∀ i, ∃ t : S32, i < c → W.cells? 0 (a.add (i * 4)) 4 = some (tokC t) ∧ D i = tokD H t ∧ Pl i = [] ∧ tokWf t := by
      intro i
      by_cases hi : i < c
      · obtain ⟨cs', h1, h2⟩ := hcell i hi
        obtain ⟨t, rfl, e, hw⟩ := open_tokC h2
        simp only [Prod.mk.injEq] at e
        exact ⟨t, fun _ => ⟨h1, e.1, e.2, hw⟩⟩
      · exact ⟨z32, fun h => absurd h hi⟩
    obtain ⟨T, hT⟩ := Classical.axiomOfChoice hex
    have hlen : ((List.range len).map T).length = len := by simp
    refine ⟨some a, (List.range len).map T, c, by rw [hlen], by rw [hlen]; exact hl, ?_, ?_, ?_⟩
    · refine ⟨rfl, by rw [hlen]; exact Nat.le_trans hl (Nat.le_trans hm (by decide)), fun _ => ⟨a, rfl, fun j p hp => ?_⟩⟩
      have hj : j < len := by
        have := (List.getElem?_eq_some_iff.1 hp).1
        simpa using this
      obtain ⟨h1, _, _, _⟩ := hT j (by omega)
      have e : p = T j := by
        rw [List.getElem?_map, List.getElem?_range hj] at hp
        simpa using hp.symm
      subst e
      refine ⟨tokC (T j), ?_⟩
      obtain ⟨_, _, hcl⟩ := World.cells?_some h1
      refine ⟨rfl, k32_mk _ _, fun i u hu => ?_⟩
      have hi : i < 4 := by
        have := (List.getElem?_eq_some_iff.1 hu).1
        simpa [tokC] using this
      have := hcl i hi
      rw [hu] at this
      rw [← this]
      rw [Addr.add_add]
      rfl
    · intro t ht
      obtain ⟨j, hj, rfl⟩ := List.mem_map.1 ht
      obtain ⟨_, hD, _, _⟩ := hT j (by have := List.mem_range.1 hj; omega)
      simp only [DataW.weights, Tryd.underlying24, List.mem_cons, List.mem_append]
      refine .inr (.inl (weights_all (List.mem_map.2 ⟨j, hj, hD⟩) (tok_weight (T j))))
    · intro W' hbel
      by_cases ha : a.block < W.heap.size
      · have := shut_slice_whole (enc := enc) (P := Tryd.prog) (w := W') (base := 0) (spare := fun b => decide (b < W.heap.size)) (held := true) (len := len) (cap := c) Tryd.underlying24 hb hl hm (decide_eq_true ha) D Pl (fun i hi => by
          obtain ⟨h1, h2, h3, h4⟩ := hT i hi
          rw [hc4]
          exact ⟨tokC (T i), 2, cells_below hbel (by rw [add_block]; exact ha) h1, by rw [h2, h3]; exact shut_tokC h4⟩)
        rw [hc4] at this
        exact this
      · have hz : c = 0 := by
          rcases Nat.eq_zero_or_pos c with h | h
          · exact h
          · obtain ⟨h1, _⟩ := hT 0 h
            have := World.cells?_block h1 (by omega)
            rw [add_block] at this
            exact absurd this ha
        subst hz
        obtain rfl : len = 0 := by omega
        have := shut_slice (enc := enc) (P := Tryd.prog) (w := W') (base := 0) (spare := fun b => decide (b < W.heap.size)) (held := true) (len := 0) (cap := 0) Tryd.underlying24 hb hl hm (decide_eq_false ha) D Pl (fun i hi => by omega)
        simpa using this
end
end Go.Proofs.YtnihjlnnllngeaaDoor.PL
