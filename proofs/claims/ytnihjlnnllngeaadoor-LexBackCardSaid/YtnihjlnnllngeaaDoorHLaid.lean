/- Two package-level tables of texts that a row lists: what a world that holds them gives the walks. -/
import Derived.Test.YtnihjlnnllngeaaDoorF0
import Derived.Test.YtnihjlnnllngeaaDoorRows
import Derived.Lib.LaidTab
import Derived.Stop.LaidErr
namespace Go.Proofs.YtnihjlnnllngeaaDoor.PL
open Go.RowKit Go.Proofs.YtnihjlnnllngeaaDoorW.PrintWords
set_option linter.unusedVariables false
set_option linter.unusedSimpArgs false

/-- A table's cells. -/
def tabL (l : List ByteArray) : Array Value := (l.map Value.string).toArray
def setTab (l : List ByteArray) : Obj → Obj
  | .cells _ t frozen => .cells (tabL l) t frozen
  | o => o
def strData (l : List ByteArray) : DataW Unit := .agg (l.map fun z => .lit (.string z.data.toList))
theorem cells_of_strs {P : Program} {w : World} {base : Nat} {sp : Nat → Bool} {held : Bool} {fuel : Nat} {t e : TypeId} {n : Nat} {cs : List Value} {l : List ByteArray} {p : List MemPlace}
    (ht : P.underlying t = some (.array n e)) (he : P.underlying e = some .string) (hce : P.cellsOf e = 1) (hct : P.cellsOf t = n)
    (h : DataW.trod (fun _ => ()) P w base sp held fuel t cs = some (strData l, p)) : cs = l.map Value.string := by
  cases fuel with
  | zero => simp [DataW.trod] at h
  | succ fuel =>
    simp only [DataW.trod, ht, hce, hct, Nat.mul_one] at h
    split at h
    · rename_i hl
      obtain ⟨xs, hm, hx⟩ := Option.map_eq_some_iff.1 h
      have hxs : xs.map (·.1) = l.map fun z => (DataW.lit (.string z.data.toList) : DataW Unit) := by
        have := congrArg Prod.fst hx
        simpa [strData] using this
      have hxl : xs.length = n := by simpa using Lib.mapM_length hm
      have hzl : l.length = n := by
        have := congrArg List.length hxs
        simp at this
        omega
      apply List.ext_getElem?
      intro i
      by_cases hi : i < n
      · obtain ⟨b, hb, hf⟩ := Lib.mapM_at hm i i (by simp [hi])
        obtain ⟨z, hc, rfl, _⟩ := DataW.trod_string he hf
        have h1 : cs[i]? = some (.string z) := by
          have := congrArg (·[0]?) hc
          simpa [List.getElem?_take, List.getElem?_drop] using this
        have h2 : (xs.map (·.1))[i]? = some (DataW.lit (.string z.data.toList) : DataW Unit) := by simp [hb]
        rw [hxs] at h2
        simp only [List.getElem?_map, Option.map_eq_some_iff, DataW.lit.injEq, Lit.string.injEq] at h2
        obtain ⟨z', hz', hz2⟩ := h2
        have : z' = z := by
          cases z; cases z'
          simp at hz2
          simp [hz2]
        simp [h1, hz', this]
      · rw [List.getElem?_eq_none (by omega), List.getElem?_eq_none (by simp; omega)]
    · cases h
theorem strs_of_head {P : Program} {W : World} {name : String} {l : List ByteArray} {rest : List (String × DataW Unit)} {g : Nat} {t e : TypeId} {n : Nat}
    (hg : P.globalNamed name = some g) (hty : (P.globals[g]?).map (·.type) = some t) (ht : P.underlying t = some (.array n e)) (he : P.underlying e = some .string) (hce : P.cellsOf e = 1) (hct : P.cellsOf t = n)
    (h : laidMet P ((name, strData l) :: rest) W) : ∀ i : Nat, W.cell? ⟨g, i, none⟩ = l[i]?.map Value.string := by
  obtain ⟨ps, ⟨g', t', cs, fuel, p, q, hg', ht', hvar, hd, _, _⟩, _⟩ := h
  obtain rfl := Option.some.inj (hg.symm.trans hg')
  obtain rfl := Option.some.inj (hty.symm.trans ht')
  have hcs := cells_of_strs ht he hce hct hd
  intro i
  have := World.var?_cell hg hvar i
  rw [this, ← Array.getElem?_toList, hcs, List.getElem?_map]
theorem C_of_cells {W : World} {g : Nat} {l : List ByteArray} (hl : l.length ≤ 100) (h : ∀ i : Nat, W.cell? ⟨g, i, none⟩ = l[i]?.map Value.string) : Kd.C Kd.string W (some ⟨g, 0, none⟩) l.length l := by
  refine ⟨rfl, by omega, fun _ => ⟨⟨g, 0, none⟩, rfl, fun j p hp => ⟨[.string p], rfl, rfl, fun i u hu => ?_⟩⟩⟩
  cases i with
  | zero =>
    cases hu
    have := h j
    rw [hp] at this
    have e : (⟨g, 0, none⟩ : Addr).add (j * Kd.string.sz + 0) = ⟨g, j, none⟩ := by
      simp [Addr.add, Kd.string, Kd.scalar]
      exact fun h0 => h0.symm
    rw [e]
    exact this
  | succ i => simp at hu
/-- What a row's list of both tables gives. -/
theorem laid_both {W : World} (h : laidMetH Tryd.prog [("kindling/lex.keys", Rows.laid_kindling_lex_keys), ("kindling/lex.signs", Rows.laid_kindling_lex_signs)] W) :
    Kd.C Kd.string W AG0 lG0.length lG0 ∧ Kd.C Kd.string W AG1 lG1.length lG1 := by
  have h : laidMet Tryd.prog [("kindling/lex.keys", strData lG1), ("kindling/lex.signs", strData lG0)] W := h
  refine ⟨C_of_cells (by decide) ?_, C_of_cells (by decide) ?_⟩
  · exact strs_of_head (rest := []) (by kernel_rfl) (by kernel_rfl) Tryd.underlying52 Tryd.underlying9 (by kernel_rfl) (by kernel_rfl) h.tail
  · exact strs_of_head (rest := [("kindling/lex.signs", strData lG0)]) (by kernel_rfl) (by kernel_rfl) Tryd.underlying64 Tryd.underlying9 (by kernel_rfl) (by kernel_rfl) h
end Go.Proofs.YtnihjlnnllngeaaDoor.PL
