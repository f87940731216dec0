/- The evaluator behind tables that the row lists. -/
import Derived.Test.YtnlpbmifjdkejaaGreatDoorFvN
import Derived.Lib.LaidTab
import Derived.Stop.LaidErr
import Derived.ShapedOpen
namespace Go.Ev
noncomputable section
open Go.RowKit (Below)
/-- Memory that holds some rows. -/
def memK {β : Type} (l : List (Nat × List Value)) : T OB → (T OB → β) → β :=
  @List.rec (Nat × List Value) (fun _ => T OB → (T OB → β) → β) (fun H k => k H)
    (fun x _ ih H k => fromLK x.2 0 .leaf fun t => natF x.2.length fun n => setK (bits x.1) H (some (.ro n t)) fun H => ih H k) l
def memOf : List (Nat × List Value) → T OB → T OB
  | [], H => H
  | x :: l, H => memOf l (set H (bits x.1) (some (.ro x.2.length (fromL x.2 0 .leaf))))
theorem memK_eq {β : Type} : ∀ (l : List (Nat × List Value)) (H : T OB) (k : T OB → β), memK l H k = k (memOf l H)
  | [], H, k => rfl
  | x :: l, H, k => by
    show (fromLK x.2 0 .leaf fun t => natF x.2.length fun n => setK (bits x.1) H (some (.ro n t)) fun H => memK l H k) = _
    rw [fromLK_fromL, natF_eq, setK_set]
    exact memK_eq l _ k
theorem hp_memOf : ∀ (l : List (Nat × List Value)) (H : T OB) (k : Nat) (ob : OB), hp (memOf l H) k = some ob → (∃ x ∈ l, x.1 = k ∧ ob = .ro x.2.length (fromL x.2 0 .leaf)) ∨ hp H k = some ob
  | [], H, k, ob, h => .inr h
  | x :: l, H, k, ob, h => by
    rcases hp_memOf l _ k ob h with ⟨y, hy, h1, h2⟩ | h
    · exact .inl ⟨y, by simp [hy], h1, h2⟩
    · rw [hp_set] at h
      by_cases hk : k = x.1
      · subst hk
        rw [upd_same] at h
        cases h
        exact .inl ⟨x, by simp, rfl, rfl⟩
      · rw [upd_other _ hk] at h
        exact .inr h
def evalsM (P : Program) (n : Nat) (f : FuncId) (args : List Value) (tabs : List (Nat × List Value)) (nx : Nat) : Option Value := memK tabs .leaf fun H => evals P n f args H nx

variable {P : Program} {W : World} {φ : Phi}
theorem HR_memOf {tabs : List (Nat × List Value)} (hgl : ∀ k, k < P.globals.size → ∃ e : Ent, φ[k]? = some (some e) ∧ e.r = k) (hrng : ∀ (k : Nat) (e : Ent), φ[k]? = some (some e) → e.r < W.heap.size)
    (htab : ∀ x ∈ tabs, ∃ e : Ent, φ[x.1]? = some (some e) ∧ ∃ c el fz, W.heap[e.r]? = some (.cells c el fz) ∧ LR φ x.2 c.toList) : HR P W φ (hp (memOf tabs .leaf)) W := by
  have inv : ∀ k ob, hp (memOf tabs .leaf) k = some ob → ∃ x ∈ tabs, x.1 = k ∧ ob = .ro x.2.length (fromL x.2 0 .leaf) := fun k ob h => by
    rcases hp_memOf tabs .leaf k ob h with h | h
    · exact h
    · simp [hp] at h
  refine ⟨.refl _ _, fun k ob h => ?_, hrng, fun k k' ob ob' e e' _ _ h _ hl => ?_, fun k ob e h he => ?_, hgl⟩
  · obtain ⟨x, hx, rfl, _⟩ := inv k ob h
    obtain ⟨e, he, _⟩ := htab x hx
    exact (List.getElem?_eq_some_iff.1 he).1
  · obtain ⟨x, hx, rfl, rfl⟩ := inv k ob h
    cases hl
  · obtain ⟨x, hx, rfl, rfl⟩ := inv k ob h
    obtain ⟨e', he', c, el, fz, h1, h2⟩ := htab x hx
    rw [he] at he'
    cases he'
    refine ⟨hrng _ _ he, c, el, fz, h1, by rw [h2.len]; simp, fun i hi v hv => ?_⟩
    rw [get_fromL, if_pos (by omega), Nat.sub_zero] at hv
    obtain ⟨v', a, b⟩ := h2.get hv
    exact ⟨v', by simpa using a, b⟩

/-- A call behind tables. -/
theorem calls_of_evalsM {n : Nat} {f : FuncId} {args : List Value} {v : Value} {tabs : List (Nat × List Value)} {nx : Nat} (hn : φ.length = nx) (hgl : ∀ k, k < P.globals.size → ∃ e : Ent, φ[k]? = some (some e) ∧ e.r = k)
    (hrng : ∀ (k : Nat) (e : Ent), φ[k]? = some (some e) → e.r < W.heap.size)
    (htab : ∀ x ∈ tabs, ∃ e : Ent, φ[x.1]? = some (some e) ∧ ∃ c el fz, W.heap[e.r]? = some (.cells c el fz) ∧ LR φ x.2 c.toList)
    (hargs : ∀ x ∈ args, flat x = true) (hv : flat v = true) (h : evalsM P n f args tabs nx = some v) : Calls P f args.toArray W fun e w' => e = .returned v ∧ Below W.heap.size W w' := by
  unfold evalsM at h
  rw [memK_eq] at h
  exact calls_of_evals (HR_memOf hgl hrng htab) hn hargs hv h

/-- The package's variables alone. -/
def phiG (n : Nat) : Phi := (List.range n).map fun k => some ⟨k, 0, 0⟩
theorem phiG_get {n k : Nat} {e : Ent} (h : (phiG n)[k]? = some (some e)) : k < n ∧ e.r = k := by
  unfold phiG at h
  rw [List.getElem?_map] at h
  obtain ⟨a, ha, hb⟩ := Option.map_eq_some_iff.1 h
  cases hb
  rw [List.getElem?_eq_some_iff] at ha
  obtain ⟨h1, h2⟩ := ha
  simp at h1 h2
  exact ⟨h1, h2.symm⟩
theorem phiG_at {n k : Nat} (h : k < n) : (phiG n)[k]? = some (some ⟨k, 0, 0⟩) := by
  unfold phiG
  rw [List.getElem?_map, List.getElem?_range h]
  rfl
theorem calls_of_evalsG {n : Nat} {f : FuncId} {args : List Value} {v : Value} {tabs : List (Nat × List Value)} {nx : Nat} (hn : P.globals.size = nx) (hsz : nx ≤ W.heap.size)
    (htab : ∀ x ∈ tabs, x.1 < nx ∧ (∀ y ∈ x.2, flat y = true) ∧ ∃ c el fz, W.heap[x.1]? = some (.cells c el fz) ∧ c.toList = x.2)
    (hargs : ∀ x ∈ args, flat x = true) (hv : flat v = true) (h : evalsM P n f args tabs nx = some v) : Calls P f args.toArray W fun e w' => e = .returned v ∧ Below W.heap.size W w' := by
  refine calls_of_evalsM (φ := phiG nx) (by simp [phiG]) (fun k hk => ⟨_, phiG_at (by omega), rfl⟩) (fun k e h => ?_) (fun x hx => ?_) hargs hv h
  · obtain ⟨h1, h2⟩ := phiG_get h
    omega
  · obtain ⟨h1, h2, c, el, fz, h3, h4⟩ := htab x hx
    exact ⟨_, phiG_at h1, c, el, fz, h3, by rw [h4]; exact .of_flat h2⟩

/-! what a row's list gives -/
def strData (l : List ByteArray) : DataW Unit := .agg (l.map fun z => .lit (.string z.data.toList))
theorem cells_of_strs {P : Program} {w : World} {base : Nat} {sp : Nat → Bool} {held : Bool} {fuel : Nat} {t e : TypeId} {n : Nat} {cs : List Value} {l : List ByteArray} {p : List MemPlace}
    (ht : P.underlying t = some (.array n e)) (he : P.underlying e = some .string) (hce : P.cellsOf e = 1) (hct : P.cellsOf t = n)
    (h : DataW.trod (fun _ => ()) P w base sp held fuel t cs = some (strData l, p)) : cs = l.map Value.string := by
  cases fuel with
  | zero => simp [DataW.trod] at h
  | succ fuel =>
    simp only [DataW.trod, ht, hce, hct, Nat.mul_one] at h
    split at h
    · rename_i hl
      obtain ⟨xs, hm, hx⟩ := Option.map_eq_some_iff.1 h
      have hxs : xs.map (·.1) = l.map fun z => (DataW.lit (.string z.data.toList) : DataW Unit) := by
        have := congrArg Prod.fst hx
        simpa [strData] using this
      have hxl : xs.length = n := by simpa using Lib.mapM_length hm
      have hzl : l.length = n := by
        have := congrArg List.length hxs
        simp at this
        omega
      apply List.ext_getElem?
      intro i
      by_cases hi : i < n
      · obtain ⟨b, hb, hf⟩ := Lib.mapM_at hm i i (by simp [hi])
        obtain ⟨z, hc, rfl, _⟩ := DataW.trod_string he hf
        have h1 : cs[i]? = some (.string z) := by
          have := congrArg (·[0]?) hc
          simpa [List.getElem?_take, List.getElem?_drop] using this
        have h2 : (xs.map (·.1))[i]? = some (DataW.lit (.string z.data.toList) : DataW Unit) := by simp [hb]
        rw [hxs] at h2
        simp only [List.getElem?_map, Option.map_eq_some_iff, DataW.lit.injEq, Lit.string.injEq] at h2
        obtain ⟨z', hz', hz2⟩ := h2
        have : z' = z := by
          cases z; cases z'
          simp at hz2
          simp [hz2]
        simp [h1, hz', this]
      · rw [List.getElem?_eq_none (by omega), List.getElem?_eq_none (by simp; omega)]
    · cases h
theorem tab_of_head {P : Program} {W : World} {name : String} {l : List ByteArray} {rest : List (String × DataW Unit)} {g : Nat} {t e : TypeId} {n : Nat}
    (hg : P.globalNamed name = some g) (hty : (P.globals[g]?).map (·.type) = some t) (ht : P.underlying t = some (.array n e)) (he : P.underlying e = some .string) (hce : P.cellsOf e = 1) (hct : P.cellsOf t = n)
    (h : laidMet P ((name, strData l) :: rest) W) : ∃ c el fz, W.heap[g]? = some (.cells c el fz) ∧ c.toList = l.map Value.string := by
  obtain ⟨ps, ⟨g', t', cs, fuel, p, q, hg', ht', hvar, hd, _, _⟩, _⟩ := h
  obtain rfl := Option.some.inj (hg.symm.trans hg')
  obtain rfl := Option.some.inj (hty.symm.trans ht')
  have hcs := cells_of_strs ht he hce hct hd
  unfold World.var? at hvar
  rw [hg] at hvar
  simp only [Option.bind_some] at hvar
  split at hvar
  · rename_i c el fz hb
    cases hvar
    exact ⟨_, _, _, hb, hcs⟩
  · cases hvar
/-- As many blocks as package variables. -/
theorem globals_le {P : Program} {W : World} (h : W.ShapedOpen P) (hw : P.globals.size < (begin P (fun _ _ => 0) default).world.heap.size) : P.globals.size ≤ W.heap.size := by
  obtain ⟨o, _, h1, _⟩ := h.2 P.globals.size (Nat.le_refl _) hw
  have := (Array.getElem?_eq_some_iff.1 h1).1
  omega
end
end Go.Ev
