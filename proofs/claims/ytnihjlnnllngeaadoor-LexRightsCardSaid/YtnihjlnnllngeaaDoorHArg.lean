/- A token as an argument: what it is, and that it is still that. -/
import Derived.Test.YtnihjlnnllngeaaDoorF0
import Derived.WalkKit
import Derived.ProofKit
import Derived.OpenShut
import Derived.ShutString
import Derived.ChangeOld
import Derived.ChangeSame
import Derived.Below
namespace Go.Proofs.YtnihjlnnllngeaaDoor.PL
open Go.ChangeShapes Go.WideShapes Go.ChangeAt Go.RowKit
set_option linter.unusedVariables false
set_option linter.unusedSimpArgs false
section
variable {H : Type} {enc : TypeId × Value → H} {w : World} {base : Nat} {sp : Nat → Bool} {held : Bool}
/-- A token's cells. -/
def tokC (t : S32) : List Value := [.int .i64 t.f0, .string t.f1, .int .i64 t.f2, .int .i64 t.f3]
/-- A token as data. -/
def tokD (H : Type) (t : S32) : DataW H := .agg [.lit (.int .i64 t.f0), .lit (.string t.f1.data.toList), .lit (.int .i64 t.f2), .lit (.int .i64 t.f3)]
/-- A token that is within its types' bounds. -/
def tokWf (t : S32) : Prop := (Lit.int .i64 t.f0).wf = true ∧ t.f1.size ≤ maxLen ∧ (Lit.int .i64 t.f2).wf = true ∧ (Lit.int .i64 t.f3).wf = true
theorem open_tokC {fuel : Nat} {cs : List Value} {x : DataW H × List MemPlace} (h : DataW.trod enc Tryd.prog w base sp held fuel 32 cs = some x) : ∃ t : S32, cs = tokC t ∧ x = (tokD H t, []) ∧ tokWf t := by
  obtain ⟨xs, n, rfl, rfl, hl, hlen, hf⟩ := DataW.trod_struct Tryd.underlying32 h
  have hc : Tryd.prog.cellsOf 32 = 4 := by kernel_rfl
  have c3 : Tryd.prog.cellsOf 3 = 1 := by kernel_rfl
  have c9 : Tryd.prog.cellsOf 9 = 1 := by kernel_rfl
  have c2 : Tryd.prog.cellsOf 2 = 1 := by kernel_rfl
  rw [hc] at hl
  match xs, hlen with
  | [y0, y1, y2, y3], _ =>
    match cs, hl with
    | [v0, v1, v2, v3], _ =>
      have h0 := hf 0 _ rfl
      have h1 := hf 1 _ rfl
      have h2 := hf 2 _ rfl
      have h3 := hf 3 _ rfl
      simp [c3, c9, c2] at h0 h1 h2 h3
      obtain ⟨n0, e0, rfl, w0⟩ := DataW.trod_int Tryd.underlying3 h0
      obtain ⟨s1, e1, rfl, w1⟩ := DataW.trod_string Tryd.underlying9 h1
      obtain ⟨n2, e2, rfl, w2⟩ := DataW.trod_int Tryd.underlying2 h2
      obtain ⟨n3, e3, rfl, w3⟩ := DataW.trod_int Tryd.underlying3 h3
      simp at e0 e1 e2 e3
      subst e0 e1 e2 e3
      exact ⟨⟨n0, s1, n2, n3⟩, rfl, rfl, w0, w1, w2, w3⟩
theorem shut_tokC {t : S32} (h : tokWf t) : DataW.trod enc Tryd.prog w base sp held 2 32 (tokC t) = some (tokD H t, []) := by
  obtain ⟨h0, h1, h2, h3⟩ := h
  have hc : Tryd.prog.cellsOf 32 = 4 := by kernel_rfl
  have c3 : Tryd.prog.cellsOf 3 = 1 := by kernel_rfl
  have c9 : Tryd.prog.cellsOf 9 = 1 := by kernel_rfl
  have c2 : Tryd.prog.cellsOf 2 = 1 := by kernel_rfl
  have u3 := Tryd.underlying3
  have u9 := Tryd.underlying9
  have u2 := Tryd.underlying2
  have := trod_struct_mk (enc := enc) (P := Tryd.prog) (w := w) (base := base) (spare := sp) (held := held) (n := 1) (cs := tokC t) (xs := [(.lit (.int .i64 t.f0), []), (.lit (.string t.f1.data.toList), []), (.lit (.int .i64 t.f2), []), (.lit (.int .i64 t.f3), [])]) Tryd.underlying32 (by rw [hc]; rfl)
    (by simp [tokC, DataW.trod, c3, c9, c2, u3, u9, u2, h0, h1, h2, h3])
  simpa [tokD] using this
theorem open_tok {r : Reach} {b0 : Nat} {v : Value} {d : DataW H} {ps : List MemPlace} (hval : Value.okWide Tryd.prog w r b0 32 v) (hd : DataW.Trod enc Tryd.prog w base sp held 32 v d ps) :
    ∃ t : S32, v = .agg (tokC t).toArray ∧ d = tokD H t ∧ ps = [] ∧ tokWf t := by
  obtain ⟨cs, rfl, hs⟩ := okWide_struct Tryd.underlying32 hval
  obtain ⟨fuel, hf⟩ := hd
  obtain ⟨t, e, hx, hw⟩ := open_tokC hf
  simp only [Prod.mk.injEq] at hx
  refine ⟨t, ?_, hx.1, hx.2, hw⟩
  congr 1
  have : cs.toList = tokC t := e
  rw [← this]
theorem shut_tok {t : S32} (h : tokWf t) : DataW.Trod enc Tryd.prog w base sp held 32 (.agg (tokC t).toArray) (tokD H t) [] := ⟨2, shut_tokC h⟩
end
end Go.Proofs.YtnihjlnnllngeaaDoor.PL
