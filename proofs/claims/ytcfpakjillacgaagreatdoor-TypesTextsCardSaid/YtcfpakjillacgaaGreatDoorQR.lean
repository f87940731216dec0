/- The world before the call: what is there is held by value. -/
import Derived.Test.YtcfpakjillacgaaGreatDoorQQ
import Derived.Laws.Tables
import Derived.ShapedOpen
import Derived.Deep.Slices
namespace Go.Ev
noncomputable section
set_option linter.unusedVariables false
open Go.RowKit (Below)
variable {P : Program} {W : World} {φ : Phi}
def fzOf (W : World) (k : Nat) : Option (Array Value) := match W.heap[k]? with
  | some (.cells c _ _) => some c
  | _ => none
def phiW (W : World) : Phi := (List.range W.heap.size).map fun k => some ⟨k, 0, 0, fzOf W k⟩
theorem phiW_length (W : World) : (phiW W).length = W.heap.size := by simp [phiW]
theorem phiW_get {k : Nat} {e : Ent} (h : (phiW W)[k]? = some (some e)) : k < W.heap.size ∧ e = ⟨k, 0, 0, fzOf W k⟩ := by
  unfold phiW at h
  rw [List.getElem?_map] at h
  by_cases hk : k < W.heap.size
  · rw [List.getElem?_range hk] at h
    simp at h
    exact ⟨hk, h.symm⟩
  · rw [List.getElem?_eq_none (by simp; omega)] at h
    cases h
theorem phiW_at {k : Nat} (h : k < W.heap.size) : (phiW W)[k]? = some (some ⟨k, 0, 0, fzOf W k⟩) := by
  unfold phiW
  rw [List.getElem?_map, List.getElem?_range h]
  rfl
theorem hp_leaf (k : Nat) : hp (.leaf : T OB) k = none := by simp [hp]
theorem HR_W (hg : P.globals.size ≤ W.heap.size) : HR P W (phiW W) (hp .leaf) W where
  below := .refl _ _
  dom := fun k ob h => by rw [hp_leaf] at h; cases h
  rng := fun k e h => by obtain ⟨h1, rfl⟩ := phiW_get h; exact h1
  inj := fun k k' ob ob' e e' _ _ h => by rw [hp_leaf] at h; cases h
  obj := fun k ob e h => by rw [hp_leaf] at h; cases h
  gl := fun k hk => ⟨_, phiW_at (by omega), rfl⟩
  fzr := fun k e c h hf => by
    obtain ⟨h1, rfl⟩ := phiW_get h
    unfold fzOf at hf
    dsimp only at hf ⊢
    split at hf
    · rename_i c' el fz hc
      cases hf
      exact ⟨el, fz, hc⟩
    · cases hf
  fzl := fun k k' e e' c ob _ _ _ h => by rw [hp_leaf] at h; cases h
/-- As many blocks as package variables. -/
theorem globals_le (h : W.ShapedOpen P) (hw : P.globals.size < (begin P (fun _ _ => 0) default).world.heap.size) : P.globals.size ≤ W.heap.size := by
  obtain ⟨o, _, h1, _⟩ := h.2 P.globals.size (Nat.le_refl _) hw
  have := (Array.getElem?_eq_some_iff.1 h1).1
  omega
/-- The cell at an address, as the block holds it. -/
theorem fz_cell {a : Addr} {v : Value} (h : W.cell? a = some v) : a.block < W.heap.size ∧ a.spot = none ∧ ∃ c, fzOf W a.block = some c ∧ c[a.off]? = some v := by
  unfold World.cell? at h
  unfold fzOf
  split at h
  · rename_i c el fz hc
    split at h
    · cases h
    · rename_i hs
      refine ⟨(Array.getElem?_eq_some_iff.1 hc).1, by simpa using hs, c, by rw [hc], h⟩
  · cases h
theorem add_none0 (a : Addr) : a.add 0 = a := rfl
/-- A row that stands there, by value. -/
theorem VR_row {a : Addr} {len cap s : Nat} {es : List Value} (hlen : es.length = len) (hs : ∀ x, x ∈ es → x.cells.toList.length = s) (hpos : 0 < s) (hcap : len ≤ cap)
    (hx : ∀ (i : Nat) (x : Value), es[i]? = some x → ∃ cs, W.cells? 0 (a.add (i * s)) s = some cs ∧ LR (phiW W) x.cells.toList cs) : VR (phiW W) (rowV s es) (.slice (some a) len cap) := by
  cases es with
  | nil => subst hlen; exact .rowE s a cap
  | cons x0 es =>
    obtain ⟨cs0, h0, hl0⟩ := hx 0 x0 rfl
    obtain ⟨_, hn0, hc0⟩ := World.cells?_some h0
    have e0 := hc0 0 hpos
    rw [Nat.zero_mul, add_none0, add_none0, List.getElem?_eq_getElem (by omega)] at e0
    obtain ⟨hb, hsp, c, hc, _⟩ := fz_cell e0
    obtain ⟨b, o, sp⟩ := a
    dsimp only at hb hsp hc
    subst hsp
    have key : ∀ (i j : Nat) (x v : Value), (x0 :: es)[i]? = some x → x.cells.toList[j]? = some v → ∃ v', c[o + i * s + j]? = some v' ∧ VR (phiW W) v v' := by
      intro i j x v hi hj
      obtain ⟨cs, h1, h2⟩ := hx i x hi
      obtain ⟨_, hn, hc1⟩ := World.cells?_some h1
      have hjs : j < s := by
        have := (List.getElem?_eq_some_iff.1 hj).1
        rw [hs x (List.mem_of_getElem? hi)] at this
        exact this
      have e1 := hc1 j hjs
      rw [List.getElem?_eq_getElem (by omega)] at e1
      have e2 := e1
      rw [add_none, add_none] at e1
      obtain ⟨_, _, c', hc', e3⟩ := fz_cell e1
      dsimp only at hc' e3
      rw [hc] at hc'
      cases hc'
      exact ⟨_, e3, h2.at_ j v _ hj (List.getElem?_eq_getElem _)⟩
    have hrow := VR.row (φ := phiW W) (k := b) (o := o) (c' := cap) (c := c) (es := x0 :: es) (s := s) (phiW_at hb) hc hs (fun _ => ?_) (by omega) (fun i j x v v' hi hj hv => ?_)
    · subst hlen; exact hrow
    · have hx1 : (x0 :: es)[es.length]? = some ((x0 :: es)[es.length]'(by simp)) := List.getElem?_eq_getElem _
      have hl := hs _ (List.mem_of_getElem? hx1)
      obtain ⟨v', h1, _⟩ := key es.length (s - 1) _ _ hx1 (List.getElem?_eq_getElem (by omega))
      have := (Array.getElem?_eq_some_iff.1 h1).1
      have e5 : (x0 :: es).length * s = es.length * s + s := by rw [List.length_cons, Nat.succ_mul]
      omega
    · obtain ⟨v'', h1, h2⟩ := key i j x v hi hj
      rw [h1] at hv
      cases hv
      exact h2
end
end Go.Ev
