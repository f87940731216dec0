/- Tables that the row lists. -/
import Derived.Test.YtcfpakjillacgaaGreatDoorQR
import Derived.Lib.LaidTab
namespace Go.Ev
noncomputable section
set_option linter.unusedVariables false
set_option linter.unusedSimpArgs false
open Go.RowKit (Below)
/-- Memory that holds some rows. -/
def memK {β : Type} (l : List (Nat × List Value)) : T OB → (T OB → β) → β :=
  @List.rec (Nat × List Value) (fun _ => T OB → (T OB → β) → β) (fun H k => k H)
    (fun x _ ih H k => fromLK x.2 0 .leaf fun t => natF x.2.length fun n => setK (bits x.1) H (some (.ro n t)) fun H => ih H k) l
def memOf : List (Nat × List Value) → T OB → T OB
  | [], H => H
  | x :: l, H => memOf l (set H (bits x.1) (some (.ro x.2.length (fromL x.2 0 .leaf))))
theorem memK_eq {β : Type} : ∀ (l : List (Nat × List Value)) (H : T OB) (k : T OB → β), memK l H k = k (memOf l H)
  | [], H, k => rfl
  | x :: l, H, k => by
    show (fromLK x.2 0 .leaf fun t => natF x.2.length fun n => setK (bits x.1) H (some (.ro n t)) fun H => memK l H k) = _
    rw [fromLK_fromL, natF_eq, setK_set]
    exact memK_eq l _ k
theorem hp_memOf : ∀ (l : List (Nat × List Value)) (H : T OB) (k : Nat) (ob : OB), hp (memOf l H) k = some ob → (∃ x ∈ l, x.1 = k ∧ ob = .ro x.2.length (fromL x.2 0 .leaf)) ∨ hp H k = some ob
  | [], H, k, ob, h => .inr h
  | x :: l, H, k, ob, h => by
    rcases hp_memOf l _ k ob h with ⟨y, hy, h1, h2⟩ | h
    · exact .inl ⟨y, by simp [hy], h1, h2⟩
    · rw [hp_set] at h
      by_cases hk : k = x.1
      · subst hk
        rw [upd_same] at h
        cases h
        exact .inl ⟨x, by simp, rfl, rfl⟩
      · rw [upd_other _ hk] at h
        exact .inr h

variable {P : Program} {W : World} {φ : Phi}
/-- Package variables alone. -/
def phiG (n : Nat) : Phi := (List.range n).map fun k => some ⟨k, 0, 0, none⟩
theorem phiG_length (n : Nat) : (phiG n).length = n := by simp [phiG]
theorem phiG_get {n k : Nat} {e : Ent} (h : (phiG n)[k]? = some (some e)) : k < n ∧ e = ⟨k, 0, 0, none⟩ := by
  unfold phiG at h
  rw [List.getElem?_map] at h
  by_cases hk : k < n
  · rw [List.getElem?_range hk] at h
    simp at h
    exact ⟨hk, h.symm⟩
  · rw [List.getElem?_eq_none (by simp; omega)] at h
    cases h
theorem phiG_at {n k : Nat} (h : k < n) : (phiG n)[k]? = some (some ⟨k, 0, 0, none⟩) := by
  unfold phiG
  rw [List.getElem?_map, List.getElem?_range h]
  rfl
/-- A world whose tables are as they are listed. -/
def TabsAt (w : World) (n : Nat) (tabs : List (Nat × List Value)) : Prop := ∀ x ∈ tabs, x.1 < n ∧ (∀ y ∈ x.2, flat y = true) ∧ ∃ c el fz, w.heap[x.1]? = some (.cells c el fz) ∧ c.toList = x.2
theorem HR_GM {w : World} {tabs : List (Nat × List Value)} (hg : P.globals.size ≤ w.heap.size) (ht : TabsAt w P.globals.size tabs) : HR P w (phiG P.globals.size) (hp (memOf tabs .leaf)) w := by
  have inv : ∀ k ob, hp (memOf tabs .leaf) k = some ob → ∃ x ∈ tabs, x.1 = k ∧ ob = .ro x.2.length (fromL x.2 0 .leaf) := fun k ob h => by
    rcases hp_memOf tabs .leaf k ob h with h | h
    · exact h
    · rw [hp_leaf] at h; cases h
  exact {
    below := .refl _ _
    dom := fun k ob h => by
      obtain ⟨x, hx, rfl, _⟩ := inv k ob h
      rw [phiG_length]; exact (ht x hx).1
    rng := fun k e h => by obtain ⟨h1, rfl⟩ := phiG_get h; exact Nat.lt_of_lt_of_le h1 hg
    inj := fun k k' ob ob' e e' _ _ h _ hl => by
      obtain ⟨x, hx, rfl, rfl⟩ := inv k ob h
      cases hl
    obj := fun k ob e h he => by
      obtain ⟨x, hx, rfl, rfl⟩ := inv k ob h
      obtain ⟨h0, h1, c, el, fz, h2, h3⟩ := ht x hx
      obtain ⟨_, rfl⟩ := phiG_get he
      refine ⟨Nat.lt_of_lt_of_le h0 hg, c, el, fz, h2, by rw [← h3]; simp, fun i hi v hv => ?_⟩
      rw [get_fromL, if_pos (by omega), Nat.sub_zero] at hv
      refine ⟨v, ?_, .flat _ (h1 v (List.mem_of_getElem? hv))⟩
      rw [← h3] at hv
      simpa using hv
    gl := fun k hk => ⟨_, phiG_at hk, rfl⟩
    fzr := fun k e c h hf => by obtain ⟨h1, rfl⟩ := phiG_get h; cases hf
    fzl := fun k k' e e' c ob h hf => by obtain ⟨h1, rfl⟩ := phiG_get h; cases hf }
/-- They stay. -/
theorem TabsAt.below {n : Nat} {w : World} {tabs : List (Nat × List Value)} (h : TabsAt W n tabs) (hn : n ≤ W.heap.size) (hb : Below W.heap.size W w) : TabsAt w n tabs := fun x hx => by
  obtain ⟨h0, h1, c, el, fz, h2, h3⟩ := h x hx
  exact ⟨h0, h1, c, el, fz, by rw [hb.block _ (by omega)]; exact h2, h3⟩
/-! what a row's list gives -/
def strData (l : List ByteArray) : DataW Unit := .agg (l.map fun z => .lit (.string z.data.toList))
theorem cells_of_strs {P : Program} {w : World} {base : Nat} {sp : Nat → Bool} {held : Bool} {fuel : Nat} {t e : TypeId} {n : Nat} {cs : List Value} {l : List ByteArray} {p : List MemPlace}
    (ht : P.underlying t = some (.array n e)) (he : P.underlying e = some .string) (hce : P.cellsOf e = 1) (hct : P.cellsOf t = n)
    (h : DataW.trod (fun _ => ()) P w base sp held fuel t cs = some (strData l, p)) : cs = l.map Value.string := by
  cases fuel with
  | zero => simp [DataW.trod] at h
  | succ fuel =>
    simp only [DataW.trod, ht, hce, hct, Nat.mul_one] at h
    split at h
    · rename_i hl
      obtain ⟨xs, hm, hx⟩ := Option.map_eq_some_iff.1 h
      have hxs : xs.map (·.1) = l.map fun z => (DataW.lit (.string z.data.toList) : DataW Unit) := by
        have := congrArg Prod.fst hx
        simpa [strData] using this
      have hxl : xs.length = n := by simpa using Lib.mapM_length hm
      have hzl : l.length = n := by
        have := congrArg List.length hxs
        simp at this
        omega
      apply List.ext_getElem?
      intro i
      by_cases hi : i < n
      · obtain ⟨b, hb, hf⟩ := Lib.mapM_at hm i i (by simp [hi])
        obtain ⟨z, hc, rfl, _⟩ := DataW.trod_string he hf
        have h1 : cs[i]? = some (.string z) := by
          have := congrArg (·[0]?) hc
          simpa [List.getElem?_take, List.getElem?_drop] using this
        have h2 : (xs.map (·.1))[i]? = some (DataW.lit (.string z.data.toList) : DataW Unit) := by simp [hb]
        rw [hxs] at h2
        simp only [List.getElem?_map, Option.map_eq_some_iff, DataW.lit.injEq, Lit.string.injEq] at h2
        obtain ⟨z', hz', hz2⟩ := h2
        have : z' = z := by
          cases z; cases z'
          simp at hz2
          simp [hz2]
        simp [h1, hz', this]
      · rw [List.getElem?_eq_none (by omega), List.getElem?_eq_none (by simp; omega)]
    · cases h
theorem tab_of_head {P : Program} {W : World} {name : String} {l : List ByteArray} {rest : List (String × DataW Unit)} {g : Nat} {t e : TypeId} {n : Nat}
    (hg : P.globalNamed name = some g) (hty : (P.globals[g]?).map (·.type) = some t) (ht : P.underlying t = some (.array n e)) (he : P.underlying e = some .string) (hce : P.cellsOf e = 1) (hct : P.cellsOf t = n)
    (h : laidMet P ((name, strData l) :: rest) W) : ∃ c el fz, W.heap[g]? = some (.cells c el fz) ∧ c.toList = l.map Value.string := by
  obtain ⟨ps, ⟨g', t', cs, fuel, p, q, hg', ht', hvar, hd, _, _⟩, _⟩ := h
  obtain rfl := Option.some.inj (hg.symm.trans hg')
  obtain rfl := Option.some.inj (hty.symm.trans ht')
  have hcs := cells_of_strs ht he hce hct hd
  unfold World.var? at hvar
  rw [hg] at hvar
  simp only [Option.bind_some] at hvar
  split at hvar
  · rename_i c el fz hb
    cases hvar
    exact ⟨_, _, _, hb, hcs⟩
  · cases hvar
end
end Go.Ev
