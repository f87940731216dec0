/- The evaluator's operations that write memory do what the model's do. -/
import Derived.Test.YtgfiajgofihpnaaEvE
namespace Go.Ev
noncomputable section
open Go.RowKit (Below)
variable {P : Program} {W w : World} {φ : Phi} {H : T OB} {tm : T Value} {ρ : Operand → Value} {g : Nat → Option OB}

/-! a new block -/
def newOB (l : List Value) (e : TypeId) : OB := .cells l.length (fromL l 0 .leaf) e
theorem newK_eq {β : Type} (H : T OB) (nx : Nat) (e : TypeId) (l : List Value) (k : T OB → Nat → β) : newK H nx e l k = k (set H (bits nx) (some (newOB l e))) (nx + 1) := by
  unfold newK
  rw [fromLK_fromL, natF_eq, setK_set, natF_eq]
  rfl

/-- What hangs on no block of the model is as it was. -/
def Keep (φ φ' : Phi) (g g' : Nat → Option OB) : Prop := ∀ k, φ[k]? = some none → φ'[k]? = some none ∧ g' k = g k
theorem Keep.refl (φ : Phi) (g : Nat → Option OB) : Keep φ φ g g := fun _ h => ⟨h, rfl⟩
theorem Keep.trans {a b c : Phi} {g g' g'' : Nat → Option OB} (h : Keep a b g g') (h' : Keep b c g' g'') : Keep a c g g'' :=
  fun k q => ⟨(h' k (h k q).1).1, ((h' k (h k q).1).2).trans (h k q).2⟩

theorem le_push (φ : Phi) (x : Option Ent) : φ.le (φ ++ [x]) := fun k e h => by
  rw [List.getElem?_append_left (List.getElem?_eq_some_iff.1 h).1]; exact h
theorem get_push (φ : Phi) (x : Option Ent) : (φ ++ [x])[φ.length]? = some x := by simp

theorem push_some {φ : Phi} {x : Option Ent} {k : Nat} {e : Ent} (h : (φ ++ [x])[k]? = some (some e)) : φ[k]? = some (some e) ∨ (k = φ.length ∧ x = some e) := by
  by_cases hk : k < φ.length
  · rw [List.getElem?_append_left hk] at h; exact .inl h
  · rw [List.getElem?_append_right (by omega)] at h
    have : k - φ.length = 0 := by
      have := (List.getElem?_eq_some_iff.1 h).1
      simp at this
      omega
    rw [this] at h
    simp at h
    exact .inr ⟨by omega, h⟩

/-- A block of ours that none of the model's stands for as yet. -/
theorem HR.pend (hH : HR P W φ g w) (ob : Option OB) : HR P W (φ ++ [none]) (upd g φ.length ob) w where
  below := hH.below
  dom := fun k o h => by
    simp only [List.length_append, List.length_singleton]
    by_cases hk : k = φ.length
    · omega
    · rw [upd_other g hk] at h; have := hH.dom k o h; omega
  rng := fun k e h => by
    rcases push_some h with h | ⟨_, h⟩
    · exact hH.rng k e h
    · cases h
  inj := fun k k' n t el n' t' el' e e' h h' hg hg' hr => by
    rcases push_some h with h | ⟨_, h⟩
    · rcases push_some h' with h' | ⟨_, h'⟩
      · have h1 := (List.getElem?_eq_some_iff.1 h).1
        have h2 := (List.getElem?_eq_some_iff.1 h').1
        rw [upd_other g (by omega)] at hg hg'
        exact hH.inj k k' n t el n' t' el' e e' h h' hg hg' hr
      · cases h'
    · cases h
  blk := fun k n t el e hg h => by
    rcases push_some h with h | ⟨_, h⟩
    · have h1 := (List.getElem?_eq_some_iff.1 h).1
      rw [upd_other g (by omega)] at hg
      obtain ⟨c, el', h2, h3, h4, h5⟩ := hH.blk k n t el e hg h
      exact ⟨c, el', h2, h3, h4, fun i hi v hv => let ⟨v', a, b⟩ := h5 i hi v hv; ⟨v', a, b.mono (le_push φ none)⟩⟩
    · cases h
  es := fun k n t el e hg h => by
    rcases push_some h with h | ⟨_, h⟩
    · have h1 := (List.getElem?_eq_some_iff.1 h).1
      rw [upd_other g (by omega)] at hg
      exact hH.es k n t el e hg h
    · cases h

theorem set_le {φ : Phi} {k : Nat} (hk : φ[k]? = some none) (e : Ent) : φ.le (φ.set k (some e)) := fun j x h => by
  rw [List.getElem?_set]
  by_cases hj : k = j
  · subst hj; rw [hk] at h; cases h
  · rw [if_neg hj]; exact h
theorem set_get {φ : Phi} {k : Nat} (hk : φ[k]? = some none) (e : Ent) : (φ.set k (some e))[k]? = some (some e) := by
  have := (List.getElem?_eq_some_iff.1 hk).1
  simp [this]
theorem set_some {φ : Phi} {k j : Nat} {e x : Ent} (h : (φ.set k (some e))[j]? = some (some x)) : (j ≠ k ∧ φ[j]? = some (some x)) ∨ (j = k ∧ x = e) := by
  rw [List.getElem?_set] at h
  by_cases hj : k = j
  · rw [if_pos hj] at h
    split at h
    · cases h; exact .inr ⟨hj.symm, rfl⟩
    · cases h
  · rw [if_neg hj] at h; exact .inl ⟨fun q => hj q.symm, h⟩

/-- The model makes the block. 'm' of its cells are ours. -/
theorem HR.bind (hH : HR P W φ g w) {k n : Nat} {t : T Value} {el : TypeId} (hk : φ[k]? = some none) (hg : g k = some (.cells n t el)) (c : Array Value) (el' : TypeId) (hn : n ≤ c.size)
    (hc : ∀ i, i < n → ∀ v, t.get (bits i) = some v → ∃ v', c[i]? = some v' ∧ VR φ v v') (es : Nat) (hes : ∀ z, szOf P el = some z → es = z) :
    HR P W (φ.set k (some ⟨w.heap.size, c.size, es⟩)) g (w.alloc (.cells c el')) where
  below := hH.below.alloc hH.below.size _
  dom := fun k o h => by rw [List.length_set]; exact hH.dom k o h
  rng := fun j e h => by
    rcases set_some h with ⟨_, h⟩ | ⟨_, rfl⟩
    · have := hH.rng j e h
      rw [World.size_alloc]
      omega
    · rw [World.size_alloc]
      exact ⟨hH.below.size, by simp⟩
  inj := fun a b n1 t1 el1 n2 t2 el2 e e' h h' hga hgb hr => by
    rcases set_some h with ⟨_, h0⟩ | ⟨ha, hx⟩
    · rcases set_some h' with ⟨_, h1⟩ | ⟨hb, hy⟩
      · exact hH.inj a b n1 t1 el1 n2 t2 el2 e e' h0 h1 hga hgb hr
      · have := (hH.rng a e h0).2
        rw [hy] at hr
        have hr : e.r = w.heap.size := hr
        omega
    · rcases set_some h' with ⟨_, h1⟩ | ⟨hb, hy⟩
      · have := (hH.rng b e' h1).2
        rw [hx] at hr
        have hr : w.heap.size = e'.r := hr
        omega
      · exact ha.trans hb.symm
  blk := fun a n1 t1 el1 e hga h => by
    rcases set_some h with ⟨_, h⟩ | ⟨rfl, rfl⟩
    · obtain ⟨c1, el2, h2, h3, h4, h5⟩ := hH.blk a n1 t1 el1 e hga h
      exact ⟨c1, el2, by rw [Below.heap_alloc w _ _ (hH.rng a e h).2]; exact h2, h3, h4, fun i hi v hv => let ⟨v', p, q⟩ := h5 i hi v hv; ⟨v', p, q.mono (set_le hk _)⟩⟩
    · rw [hg] at hga
      cases hga
      exact ⟨c, el', Go.heap_alloc_new w _, rfl, hn, fun i hi v hv => let ⟨v', p, q⟩ := hc i hi v hv; ⟨v', p, q.mono (set_le hk _)⟩⟩
  es := fun a n1 t1 el1 e hga h => by
    rcases set_some h with ⟨_, h⟩ | ⟨rfl, rfl⟩
    · exact hH.es a n1 t1 el1 e hga h
    · rw [hg] at hga
      cases hga
      exact hes

/-- A block that is none of ours is made. -/
theorem HR.other (hH : HR P W φ g w) (o : Obj) : HR P W φ g (w.alloc o) where
  below := hH.below.alloc hH.below.size _
  dom := hH.dom
  rng := fun j e h => by have := hH.rng j e h; rw [World.size_alloc]; omega
  inj := hH.inj
  blk := fun a n1 t1 el1 e hga h => by
    obtain ⟨c1, el2, h2, h3, h4, h5⟩ := hH.blk a n1 t1 el1 e hga h
    exact ⟨c1, el2, by rw [Below.heap_alloc w _ _ (hH.rng a e h).2]; exact h2, h3, h4, h5⟩
  es := hH.es

theorem HR.drew (hH : HR P W φ g w) : HR P W φ g w.drew where
  below := hH.below.drew
  dom := hH.dom
  rng := hH.rng
  inj := hH.inj
  blk := hH.blk
  es := hH.es

/-- A block of ours is no more. -/
theorem HR.kill (hH : HR P W φ g w) (b : Nat) (hb : (g b).isSome = true) : HR P W φ (upd g b (some .dead)) w where
  below := hH.below
  dom := fun k o h => by
    by_cases hk : k = b
    · subst hk
      obtain ⟨x, hx⟩ := Option.isSome_iff_exists.1 hb
      exact hH.dom k x hx
    · rw [upd_other g hk] at h; exact hH.dom k o h
  rng := hH.rng
  inj := fun k k' n t el n' t' el' e e' h h' hg hg' hr => by
    have h1 : k ≠ b := fun q => by subst q; rw [upd_same] at hg; cases hg
    have h2 : k' ≠ b := fun q => by subst q; rw [upd_same] at hg'; cases hg'
    rw [upd_other g h1] at hg
    rw [upd_other g h2] at hg'
    exact hH.inj k k' n t el n' t' el' e e' h h' hg hg' hr
  blk := fun a n1 t1 el1 e hga h => by
    have h1 : a ≠ b := fun q => by subst q; rw [upd_same] at hga; cases hga
    rw [upd_other g h1] at hga
    exact hH.blk a n1 t1 el1 e hga h
  es := fun a n1 t1 el1 e hga h => by
    have h1 : a ≠ b := fun q => by subst q; rw [upd_same] at hga; cases hga
    rw [upd_other g h1] at hga
    exact hH.es a n1 t1 el1 e hga h

/-! stores -/
theorem HR.store (hH : HR P W φ g w) {b n j : Nat} {tr : T Value} {el : TypeId} {e : Ent} (hg : g b = some (.cells n tr el)) (hb : φ[b]? = some (some e)) (hj : j < n)
    {v v' : Value} (hv : VR φ v v') : HR P W φ (upd g b (some (.cells n (set tr (bits j) (some v)) el))) (w.setCell ⟨e.r, j, none⟩ v') := by
  obtain ⟨c, el', hr, hsz, hn, hc⟩ := hH.blk b n tr el e hg hb
  have hcell : ∀ k n1 t1 el1, upd g b (some (.cells n (set tr (bits j) (some v)) el)) k = some (.cells n1 t1 el1) → ∃ n2 t2 el2, g k = some (.cells n2 t2 el2) := by
    intro k n1 t1 el1 h
    by_cases hk : k = b
    · subst hk; exact ⟨_, _, _, hg⟩
    · rw [upd_other g hk] at h; exact ⟨_, _, _, h⟩
  refine ⟨hH.below.setCell (hH.rng b e hb).1 v', ?_, ?_, ?_, ?_, ?_⟩
  · intro k o h
    by_cases hk : k = b
    · subst hk; exact hH.dom k _ hg
    · rw [upd_other g hk] at h; exact hH.dom k o h
  · intro k x h
    rw [World.size_setCell]
    exact hH.rng k x h
  · intro k k' n1 t1 el1 n2 t2 el2 x x' h h' hk hk' hr
    obtain ⟨_, _, _, q⟩ := hcell k _ _ _ hk
    obtain ⟨_, _, _, q'⟩ := hcell k' _ _ _ hk'
    exact hH.inj k k' _ _ _ _ _ _ x x' h h' q q' hr
  · intro k n1 t1 el1 x hk h
    by_cases hkb : k = b
    · subst hkb
      rw [upd_same] at hk
      cases hk
      rw [hb] at h
      cases h
      refine ⟨c.setIfInBounds j v', el', heap_setCell_same w e.r j c el' v' hr, by simp [hsz], hn, fun i hi u hu => ?_⟩
      rw [get_at] at hu
      by_cases hij : i = j
      · subst hij
        rw [if_pos rfl] at hu
        cases hu
        exact ⟨v', by rw [Array.getElem?_setIfInBounds_self_of_lt (by omega)], hv⟩
      · rw [if_neg hij] at hu
        obtain ⟨u', h1, h2⟩ := hc i hi u hu
        exact ⟨u', by rw [Array.getElem?_setIfInBounds_ne (fun q => hij q.symm)]; exact h1, h2⟩
    · rw [upd_other g hkb] at hk
      obtain ⟨c1, el2, h2, h3, h4, h5⟩ := hH.blk k n1 t1 el1 x hk h
      have hne : x.r ≠ e.r := fun q => hkb (hH.inj k b _ _ _ _ _ _ x e h hb hk hg q)
      exact ⟨c1, el2, by rw [heap_setCell_other w ⟨e.r, j, none⟩ x.r v' hne]; exact h2, h3, h4, h5⟩
  · intro k n1 t1 el1 x hk h
    by_cases hkb : k = b
    · subst hkb
      rw [upd_same] at hk
      cases hk
      exact hH.es k n tr el x hg h
    · rw [upd_other g hkb] at hk
      exact hH.es k n1 t1 el1 x hk h

theorem upd_upd (g : Nat → Option OB) (b : Nat) (x y : Option OB) : upd (upd g b x) b y = upd g b y := by
  funext j
  unfold upd
  split <;> rfl
theorem upd_self (g : Nat → Option OB) (b : Nat) (x : Option OB) (h : g b = x) : upd g b x = g := by
  funext j
  unfold upd
  split
  · rename_i q; subst q; exact h.symm
  · rfl

theorem run_storeCells {b n : Nat} {el : TypeId} {e : Ent} (hb : φ[b]? = some (some e)) : ∀ (l l' : List Value) (off i : Nat) (g : Nat → Option OB) (w : World) (tr : T Value),
    HR P W φ g w → g b = some (.cells n tr el) → LR φ l l' → l.all oneCell = true → off + i + l.length ≤ n →
    ∃ w', (storeCells ⟨e.r, off, none⟩ l' i).run P w = .ok () w' ∧ HR P W φ (upd g b (some (.cells n (fromL l (off + i) tr) el))) w'
  | [], l', off, i, g, w, tr, hH, hg, hl, _, _ => by
    cases hl.nil_inv
    exact ⟨w, rfl, by rw [fromL_nil, upd_self g b _ hg]; exact hH⟩
  | v :: l, l', off, i, g, w, tr, hH, hg, hl, ho, hn => by
    obtain ⟨v', m, rfl, h1, h2⟩ := hl.inv
    have ho' : oneCell v = true ∧ l.all oneCell = true := by simpa using ho
    have hlen : off + i + (l.length + 1) ≤ n := hn
    have hS := hH.store hg hb (j := off + i) (by omega) h1
    obtain ⟨c, el', hr, hsz, hnn, hc⟩ := hH.blk b n tr el e hg hb
    obtain ⟨w', hrun, hH'⟩ := run_storeCells hb l m off (i + 1) _ _ (set tr (bits (off + i)) (some v)) hS (upd_same _ _ _) h2 ho'.2 (by omega)
    refine ⟨w', ?_, ?_⟩
    · have hcell : w.cell? ⟨e.r, off + i, none⟩ = some c[off + i] := by rw [cell_of_row w e.r _ c el' _ hr]; exact Array.getElem?_eq_getElem (by omega)
      simp only [storeCells, Sem.run_bind, add_none, run_store P w _ _ _ (h1.oneCell ho'.1), hcell, frozen_of_row w e.r _ c el' hr, Bool.false_eq_true, if_false, Result.andThen_ok]
      exact hrun
    · rw [upd_upd] at hH'
      rw [fromL_cons]
      exact hH'

end
end Go.Ev
