/- The evaluator's operations that write memory do what the model's do. -/
import Derived.Test.YtcfpakjillacgaaGreatDoorQE
namespace Go.Ev
noncomputable section
open Go.RowKit (Below)
variable {P : Program} {W w : World} {φ : Phi} {H : T OB} {tm : T Value} {ρ : Operand → Value} {g : Nat → Option OB}

/-! a new block -/
def newOB (l : List Value) (e : TypeId) : OB := .cells l.length (fromL l 0 .leaf) e
theorem newK_eq {β : Type} (H : T OB) (nx : Nat) (e : TypeId) (l : List Value) (k : T OB → Nat → β) : newK H nx e l k = k (set H (bits nx) (some (newOB l e))) (nx + 1) := by
  unfold newK
  rw [fromLK_fromL, natF_eq, setK_set, natF_eq]
  rfl

/-- What hangs on no block of the model is as it was. -/
def Keep (φ φ' : Phi) (g g' : Nat → Option OB) : Prop := ∀ k, φ[k]? = some none → φ'[k]? = some none ∧ g' k = g k
theorem Keep.refl (φ : Phi) (g : Nat → Option OB) : Keep φ φ g g := fun _ h => ⟨h, rfl⟩
theorem Keep.trans {a b c : Phi} {g g' g'' : Nat → Option OB} (h : Keep a b g g') (h' : Keep b c g' g'') : Keep a c g g'' :=
  fun k q => ⟨(h' k (h k q).1).1, ((h' k (h k q).1).2).trans (h k q).2⟩

theorem le_push (φ : Phi) (x : Option Ent) : φ.le (φ ++ [x]) := fun k e h => by
  rw [List.getElem?_append_left (List.getElem?_eq_some_iff.1 h).1]; exact h
theorem get_push (φ : Phi) (x : Option Ent) : (φ ++ [x])[φ.length]? = some x := by simp

theorem push_some {φ : Phi} {x : Option Ent} {k : Nat} {e : Ent} (h : (φ ++ [x])[k]? = some (some e)) : φ[k]? = some (some e) ∨ (k = φ.length ∧ x = some e) := by
  by_cases hk : k < φ.length
  · rw [List.getElem?_append_left hk] at h; exact .inl h
  · rw [List.getElem?_append_right (by omega)] at h
    have : k - φ.length = 0 := by
      have := (List.getElem?_eq_some_iff.1 h).1
      simp at this
      omega
    rw [this] at h
    simp at h
    exact .inr ⟨by omega, h⟩

theorem HR.glob {ψ : Phi} (hH : HR P W φ g w) (hle : φ.le ψ) : ∀ (k : Nat), k < P.globals.size → ∃ e : Ent, ψ[k]? = some (some e) ∧ e.r = k :=
  fun k hk => let ⟨e, a, b⟩ := hH.gl k hk; ⟨e, hle k e a, b⟩

/-- A block of ours that none of the model's stands for as yet. -/
theorem HR.pend (hH : HR P W φ g w) (ob : Option OB) : HR P W (φ ++ [none]) (upd g φ.length ob) w where
  below := hH.below
  gl := hH.glob (le_push φ none)
  dom := fun k o h => by
    simp only [List.length_append, List.length_singleton]
    by_cases hk : k = φ.length
    · omega
    · rw [upd_other g hk] at h; have := hH.dom k o h; omega
  rng := fun k e h => by
    rcases push_some h with h | ⟨_, h⟩
    · exact hH.rng k e h
    · cases h
  inj := fun k k' ob ob' e e' h h' hg hg' hl hl' hr => by
    rcases push_some h with h | ⟨_, h⟩
    · rcases push_some h' with h' | ⟨_, h'⟩
      · have h1 := (List.getElem?_eq_some_iff.1 h).1
        have h2 := (List.getElem?_eq_some_iff.1 h').1
        rw [upd_other g (by omega)] at hg hg'
        exact hH.inj k k' ob ob' e e' h h' hg hg' hl hl' hr
      · cases h'
    · cases h
  obj := fun k ob e hg h => by
    rcases push_some h with h | ⟨_, h⟩
    · have h1 := (List.getElem?_eq_some_iff.1 h).1
      rw [upd_other g (by omega)] at hg
      exact (hH.obj k ob e hg h).mono (le_push φ none)
    · cases h
  fzr := fun k e c h hf => by
    rcases push_some h with h | ⟨_, h⟩
    · exact hH.fzr k e c h hf
    · cases h
  fzl := fun k k' e e' c o h hf h' hg hl => by
    rcases push_some h with h | ⟨_, h⟩
    · rcases push_some h' with h' | ⟨_, h'⟩
      · have h2 := (List.getElem?_eq_some_iff.1 h').1
        rw [upd_other g (by omega)] at hg
        exact hH.fzl k k' e e' c o h hf h' hg hl
      · cases h'
    · cases h

theorem set_le {φ : Phi} {k : Nat} (hk : φ[k]? = some none) (e : Ent) : φ.le (φ.set k (some e)) := fun j x h => by
  rw [List.getElem?_set]
  by_cases hj : k = j
  · subst hj; rw [hk] at h; cases h
  · rw [if_neg hj]; exact h
theorem set_get {φ : Phi} {k : Nat} (hk : φ[k]? = some none) (e : Ent) : (φ.set k (some e))[k]? = some (some e) := by
  have := (List.getElem?_eq_some_iff.1 hk).1
  simp [this]
theorem set_some {φ : Phi} {k j : Nat} {e x : Ent} (h : (φ.set k (some e))[j]? = some (some x)) : (j ≠ k ∧ φ[j]? = some (some x)) ∨ (j = k ∧ x = e) := by
  rw [List.getElem?_set] at h
  by_cases hj : k = j
  · rw [if_pos hj] at h
    split at h
    · cases h; exact .inr ⟨hj.symm, rfl⟩
    · cases h
  · rw [if_neg hj] at h; exact .inl ⟨fun q => hj q.symm, h⟩

/-- The model makes the block. -/
theorem HR.bind (hH : HR P W φ g w) {k : Nat} {ob : OB} (hk : φ[k]? = some none) (hg : g k = some ob) (o : Obj) {sz es : Nat} (hob : OBR P W φ ob ⟨w.heap.size, sz, es, none⟩ (w.alloc o)) :
    HR P W (φ.set k (some ⟨w.heap.size, sz, es, none⟩)) g (w.alloc o) where
  below := hH.below.alloc hH.below.size _
  gl := hH.glob (set_le hk _)
  dom := fun k o h => by rw [List.length_set]; exact hH.dom k o h
  rng := fun j e h => by
    rw [World.size_alloc]
    rcases set_some h with ⟨_, h⟩ | ⟨_, rfl⟩
    · have := hH.rng j e h; omega
    · show w.heap.size < w.heap.size + 1; omega
  inj := fun a b oa ob' e e' h h' hga hgb hla hlb hr => by
    rcases set_some h with ⟨_, h0⟩ | ⟨ha, hx⟩
    · rcases set_some h' with ⟨_, h1⟩ | ⟨hb, hy⟩
      · exact hH.inj a b oa ob' e e' h0 h1 hga hgb hla hlb hr
      · have := hH.rng a e h0
        rw [hy] at hr
        have hr : e.r = w.heap.size := hr
        omega
    · rcases set_some h' with ⟨_, h1⟩ | ⟨hb, hy⟩
      · have := hH.rng b e' h1
        rw [hx] at hr
        have hr : w.heap.size = e'.r := hr
        omega
      · exact ha.trans hb.symm
  obj := fun a oa e hga h => by
    rcases set_some h with ⟨_, h0⟩ | ⟨ha, hx⟩
    · exact ((hH.obj a oa e hga h0).heap (fun _ => Below.heap_alloc w _ _ (hH.rng a e h0))).mono (set_le hk _)
    · subst ha
      subst hx
      rw [hg] at hga
      cases hga
      exact hob.mono (set_le hk _)
  fzr := fun a e c h hf => by
    rcases set_some h with ⟨_, h0⟩ | ⟨ha, hx⟩
    · obtain ⟨el, fz, hr⟩ := hH.fzr a e c h0 hf
      exact ⟨el, fz, by rw [Below.heap_alloc w _ _ (hH.rng a e h0)]; exact hr⟩
    · subst hx; cases hf
  fzl := fun a b e e' c o h hf h' hga hl => by
    rcases set_some h with ⟨_, h0⟩ | ⟨ha, hx⟩
    · rcases set_some h' with ⟨_, h1⟩ | ⟨hb, hy⟩
      · exact hH.fzl a b e e' c o h0 hf h1 hga hl
      · have := hH.rng a e h0
        rw [hy]
        show w.heap.size ≠ e.r
        omega
    · subst hx; cases hf

/-- Where a fresh block goes. -/
def fresh (φ : Phi) (r sz es : Nat) : Phi := (φ ++ [none]).set φ.length (some ⟨r, sz, es, none⟩)
theorem fresh_len (φ : Phi) (r sz es : Nat) : (fresh φ r sz es).length = φ.length + 1 := by simp [fresh]
theorem fresh_get (φ : Phi) (r sz es : Nat) : (fresh φ r sz es)[φ.length]? = some (some ⟨r, sz, es, none⟩) := by simp [fresh]
theorem fresh_le (φ : Phi) (r sz es : Nat) : φ.le (fresh φ r sz es) := Phi.le_trans (le_push φ none) (set_le (get_push φ none) _)
theorem fresh_keep (φ : Phi) (r sz es : Nat) (g : Nat → Option OB) (x : Option OB) : Keep φ (fresh φ r sz es) g (upd g φ.length x) := fun k h => by
  have hk := (List.getElem?_eq_some_iff.1 h).1
  refine ⟨?_, upd_other g (by omega) x⟩
  unfold fresh
  rw [List.getElem?_set_ne (by omega), List.getElem?_append_left hk]
  exact h
theorem HR.fresh (hH : HR P W φ g w) {ob : OB} (o : Obj) {sz es : Nat} (hob : OBR P W φ ob ⟨w.heap.size, sz, es, none⟩ (w.alloc o)) :
    HR P W (Ev.fresh φ w.heap.size sz es) (upd g φ.length (some ob)) (w.alloc o) :=
  (hH.pend (some ob)).bind (get_push φ none) (upd_same _ _ _) o (hob.mono (le_push φ none))

theorem HR.drew (hH : HR P W φ g w) : HR P W φ g w.drew where
  below := hH.below.drew
  gl := hH.gl
  dom := hH.dom
  rng := hH.rng
  inj := hH.inj
  obj := fun k ob e hg h => (hH.obj k ob e hg h).heap fun _ => rfl
  fzr := fun k e c h hf => hH.fzr k e c h hf
  fzl := hH.fzl

/-- A block of ours is written, or is no more. -/
theorem HR.put {w' : World} (hH : HR P W φ g w) {b : Nat} {ob0 ob' : OB} {e : Ent} (hg : g b = some ob0) (hl : live ob0 = true) (hb : φ[b]? = some (some e)) (hbel : Below W.heap.size W w') (hsz : w'.heap.size = w.heap.size)
    (hoth : ∀ r, r ≠ e.r → w'.heap[r]? = w.heap[r]?) (hob : OBR P W φ ob' e w') : HR P W φ (upd g b (some ob')) w' where
  below := hbel
  gl := hH.gl
  dom := fun k o h => by
    by_cases hk : k = b
    · subst hk; exact hH.dom k _ hg
    · rw [upd_other g hk] at h; exact hH.dom k o h
  rng := fun k x h => by rw [hsz]; exact hH.rng k x h
  inj := fun k k' oa oa' x x' h h' hk hk' hla hla' hr => by
    have hx : ∀ j oj, upd g b (some ob') j = some oj → live oj = true → ∃ oj', g j = some oj' ∧ live oj' = true := by
      intro j oj h hl'
      by_cases hj : j = b
      · subst hj; exact ⟨_, hg, hl⟩
      · rw [upd_other g hj] at h; exact ⟨_, h, hl'⟩
    obtain ⟨_, q1, q2⟩ := hx k _ hk hla
    obtain ⟨_, q3, q4⟩ := hx k' _ hk' hla'
    exact hH.inj k k' _ _ x x' h h' q1 q3 q2 q4 hr
  obj := fun k oa x hk h => by
    by_cases hkb : k = b
    · subst hkb
      rw [upd_same] at hk
      cases hk
      rw [hb] at h
      cases h
      exact hob
    · rw [upd_other g hkb] at hk
      refine (hH.obj k oa x hk h).heap fun hla => hoth _ fun q => hkb (hH.inj k b _ _ x e h hb hk hg hla hl q)
  fzr := fun k x c h hf => by
    obtain ⟨el, fz, hr⟩ := hH.fzr k x c h hf
    exact ⟨el, fz, by rw [hoth _ (fun q => hH.fzl k b x e c ob0 h hf hb hg hl q.symm)]; exact hr⟩
  fzl := fun k k' x x' c o h hf h' hk' hl' => by
    by_cases hkb : k' = b
    · subst hkb
      rw [hb] at h'
      cases h'
      exact hH.fzl k k' x e c ob0 h hf hb hg hl
    · rw [upd_other g hkb] at hk'
      exact hH.fzl k k' x x' c o h hf h' hk' hl'

theorem upd_upd (g : Nat → Option OB) (b : Nat) (x y : Option OB) : upd (upd g b x) b y = upd g b y := by
  funext j
  unfold upd
  split <;> rfl
theorem upd_self (g : Nat → Option OB) (b : Nat) (x : Option OB) (h : g b = x) : upd g b x = g := by
  funext j
  unfold upd
  split
  · rename_i q; subst q; exact h.symm
  · rfl

theorem HR.kill (hH : HR P W φ g w) {b n : Nat} {t : T Value} {el : TypeId} {e : Ent} (hg : g b = some (.cells n t el)) (hb : φ[b]? = some (some e)) : HR P W φ (upd g b (some .dead)) w :=
  hH.put hg rfl hb hH.below rfl (fun _ _ => rfl) trivial

/-! stores -/
theorem HR.store (hH : HR P W φ g w) {b n j : Nat} {tr : T Value} {el : TypeId} {e : Ent} (hg : g b = some (.cells n tr el)) (hb : φ[b]? = some (some e)) (hj : j < n)
    {v v' : Value} (hv : VR φ v v') : HR P W φ (upd g b (some (.cells n (set tr (bits j) (some v)) el))) (w.setCell ⟨e.r, j, none⟩ v') := by
  obtain ⟨hab, ⟨c, el', hr, hsz, hn, hc⟩, hes⟩ := hH.obj b _ e hg hb
  refine hH.put hg rfl hb (hH.below.setCell hab v') (World.size_setCell ..) (fun r hne => heap_setCell_other w ⟨e.r, j, none⟩ r v' hne) ⟨hab, ⟨c.setIfInBounds j v', el', heap_setCell_same w e.r j c el' v' hr, by simp [hsz], hn, fun i hi u hu => ?_⟩, hes⟩
  rw [get_at] at hu
  by_cases hij : i = j
  · subst hij
    rw [if_pos rfl] at hu
    cases hu
    exact ⟨v', by rw [Array.getElem?_setIfInBounds_self_of_lt (by omega)], hv⟩
  · rw [if_neg hij] at hu
    obtain ⟨u', h1, h2⟩ := hc i hi u hu
    exact ⟨u', by rw [Array.getElem?_setIfInBounds_ne (fun q => hij q.symm)]; exact h1, h2⟩

theorem run_storeCells {b n : Nat} {el : TypeId} {e : Ent} (hb : φ[b]? = some (some e)) : ∀ (l l' : List Value) (off i : Nat) (g : Nat → Option OB) (w : World) (tr : T Value),
    HR P W φ g w → g b = some (.cells n tr el) → LR φ l l' → l.all oneCell = true → off + i + l.length ≤ n →
    ∃ w', (storeCells ⟨e.r, off, none⟩ l' i).run P w = .ok () w' ∧ HR P W φ (upd g b (some (.cells n (fromL l (off + i) tr) el))) w'
  | [], l', off, i, g, w, tr, hH, hg, hl, _, _ => by
    cases hl.nil_inv
    exact ⟨w, rfl, by rw [fromL_nil, upd_self g b _ hg]; exact hH⟩
  | v :: l, l', off, i, g, w, tr, hH, hg, hl, ho, hn => by
    obtain ⟨v', m, rfl, h1, h2⟩ := hl.inv
    have ho' : oneCell v = true ∧ l.all oneCell = true := by simpa using ho
    have hlen : off + i + (l.length + 1) ≤ n := hn
    have hS := hH.store hg hb (j := off + i) (by omega) h1
    obtain ⟨c, el', hr, hsz, hnn, hc⟩ := hH.cells hg hb
    obtain ⟨w', hrun, hH'⟩ := run_storeCells hb l m off (i + 1) _ _ (set tr (bits (off + i)) (some v)) hS (upd_same _ _ _) h2 ho'.2 (by omega)
    refine ⟨w', ?_, ?_⟩
    · have hcell : w.cell? ⟨e.r, off + i, none⟩ = some c[off + i] := by rw [cell_of_row w e.r _ c el' _ hr]; exact Array.getElem?_eq_getElem (by omega)
      simp only [storeCells, Sem.run_bind, add_none, run_store P w _ _ _ (h1.oneCell ho'.1), hcell, frozen_of_row w e.r _ c el' hr, Bool.false_eq_true, if_false, Result.andThen_ok]
      exact hrun
    · rw [upd_upd] at hH'
      rw [fromL_cons]
      exact hH'

end
end Go.Ev
