/- The row's argument, by value. -/
import Derived.Test.YtcfpakjillacgaaGreatDoorTG
import Derived.Test.YtcfpakjillacgaaGreatDoorQR
import Derived.WalkKit
import Derived.ProofKit
import Derived.OpenShut
import Derived.ShutString
import Derived.ChangeOld
import Derived.ChangeSame
import Derived.Deep.Slices
import Derived.DataElems
import Derived.Below
import Derived.SizedLaws
namespace Go.Proofs.YtcfpakjillacgaaGreatDoor
open Go.Ev Go.RowKit Go.ChangeShapes Go.WideShapes Go.ChangeAt
noncomputable section
set_option maxRecDepth 100000
set_option linter.unusedVariables false
set_option linter.unusedSimpArgs false
variable {H : Type} {enc : TypeId × Value → H} {W : World} {sp : Nat → Bool} {held : Bool}
abbrev big : Nat := 1125899906842624
/-- What is read is not too large. -/
def Wt (t : TypeId) (d : DataW H) : Prop := ∀ n, n ∈ d.weights P t → n ≤ reachBytes
theorem all_mem {e : TypeId} {d : DataW H} : ∀ {l : List (DataW H)}, d ∈ l → ∀ n, n ∈ d.weights P e → n ∈ DataW.weightsAll P e l
  | x :: r, h, n, hn => by
    simp only [DataW.weightsAll, List.mem_append]
    rcases List.mem_cons.1 h with rfl | h
    · exact .inl hn
    · exact .inr (all_mem h n hn)
/-- A list that is read, by value. -/
theorem open_sl {α : Type} (ev : α → Value) (ok : α → Prop) {t e : TypeId} {s : Nat} (ht : P.underlying t = some (.slice e)) (hc : P.cellsOf e = s) (hpos : 0 < s) (hby : 0 < P.bytesOf e) {fuel : Nat} {cs : List Value} {x : DataW H × List MemPlace}
    (hopen : ∀ m, m < fuel → ∀ cs x, DataW.trod enc P W 0 sp held m e cs = some x → ∃ a : α, (ev a).cells.toList.length = s ∧ LR (phiW W) (ev a).cells.toList cs ∧ (Wt e x.1 → ok a))
    (h : DataW.trod enc P W 0 sp held fuel t cs = some x) : ∃ (v : Value) (l : List α), cs = [v] ∧ VR (phiW W) (rowV s (l.map ev)) v ∧ (Wt t x.1 → l.length < big ∧ ∀ a, a ∈ l → ok a) := by
  have hbig : big = 1125899906842624 := rfl
  rcases DataW.trod_slice ht h with ⟨rfl, rfl⟩ | ⟨a, len, cap, elems, rest, n, rfl, rfl, rfl, hb, hl, hm, hlen, hel, _, _⟩
  · exact ⟨_, [], rfl, .row0 s, fun _ => ⟨by simp [hbig], fun a h => nomatch h⟩⟩
  · rw [hc] at hel
    have hex : ∀ i : Fin len, ∃ a' : α, ∃ cs', W.cells? 0 (a.add (i.val * s)) s = some cs' ∧ (ev a').cells.toList.length = s ∧ LR (phiW W) (ev a').cells.toList cs' ∧ (Wt e (elems[i.val]'(by omega)).1 → ok a') := by
      intro i
      have h1 := hel i.val i.isLt
      rw [List.getElem?_eq_getElem (by omega)] at h1
      cases hcs : W.cells? 0 (a.add (i.val * s)) s with
      | none => rw [hcs] at h1; cases h1
      | some cs' =>
        rw [hcs] at h1
        obtain ⟨a', h2, h3, h4⟩ := hopen n (Nat.lt_succ_self n) cs' _ h1
        exact ⟨a', cs', rfl, h2, h3, h4⟩
    obtain ⟨A, hA⟩ := Classical.axiomOfChoice hex
    have hg : ∀ (i : Nat) (y : α), (List.ofFn A)[i]? = some y → ∃ hi : i < len, y = A ⟨i, hi⟩ := by
      intro i y hy
      have hi : i < len := by have := (List.getElem?_eq_some_iff.1 hy).1; simpa using this
      refine ⟨hi, ?_⟩
      rw [List.getElem?_eq_getElem (by simpa using hi)] at hy
      simpa using hy.symm
    refine ⟨_, List.ofFn A, rfl, VR_row (by simp) ?_ hpos hl ?_, fun hw => ⟨?_, ?_⟩⟩
    · intro y hy
      obtain ⟨y', hy', rfl⟩ := List.mem_map.1 hy
      obtain ⟨i, hi⟩ := List.mem_iff_getElem?.1 hy'
      obtain ⟨hlt, rfl⟩ := hg i y' hi
      obtain ⟨_, _, h2, _⟩ := hA ⟨i, hlt⟩
      exact h2
    · intro i y hy
      rw [List.getElem?_map] at hy
      cases hq : (List.ofFn A)[i]? with
      | none => rw [hq] at hy; cases hy
      | some y' =>
        rw [hq] at hy
        cases hy
        obtain ⟨hlt, rfl⟩ := hg i y' hq
        obtain ⟨cs', h1, h2, h3, _⟩ := hA ⟨i, hlt⟩
        exact ⟨cs', h1, h3⟩
    · have := hw ((elems.length + rest.length) * P.bytesOf e) (by simp [DataW.weights, ht])
      have h2 : elems.length + rest.length ≤ (elems.length + rest.length) * P.bytesOf e := Nat.le_mul_of_pos_right _ hby
      have hr : reachBytes = 140737488351232 := rfl
      simp only [List.length_ofFn]
      omega
    · intro y hy
      obtain ⟨i, hi⟩ := List.mem_iff_getElem?.1 hy
      obtain ⟨hlt, rfl⟩ := hg i y hi
      obtain ⟨_, _, _, _, h4⟩ := hA ⟨i, hlt⟩
      refine h4 fun n hn => hw n ?_
      have hmem : (elems[i]'(by omega)).1 ∈ elems.map (·.1) := List.mem_map.2 ⟨_, List.getElem_mem _, rfl⟩
      simp only [DataW.weights, ht, List.mem_cons, List.mem_append]
      exact .inr (.inl (all_mem hmem n hn))
theorem c2 : P.cellsOf 2 = 1 := by kernel_rfl
theorem c3 : P.cellsOf 3 = 1 := by kernel_rfl
theorem c9 : P.cellsOf 9 = 1 := by kernel_rfl
theorem c22 : P.cellsOf 22 = 1 := by kernel_rfl
theorem c24 : P.cellsOf 24 = 4 := by kernel_rfl
theorem rg_wf {n : Int} (h : (Lit.int .i64 n).wf = true) : rg n := by
  have : IntKind.i64.min = -9223372036854775808 := by decide
  have : IntKind.i64.max = 9223372036854775807 := by decide
  simp only [Lit.wf, Bool.and_eq_true, decide_eq_true_eq] at h
  unfold rg
  omega
def OpenT (enc : TypeId × Value → H) (W : World) (sp : Nat → Bool) (held : Bool) (fuel : Nat) : Prop := ∀ cs x, DataW.trod enc P W 0 sp held fuel 24 cs = some x → ∃ t : Ty, t.v.cells.toList.length = 4 ∧ LR (phiW W) t.v.cells.toList cs ∧ (Wt 24 x.1 → tOk t)
theorem open_ty1 {fuel : Nat} (ih : ∀ m, m < fuel → OpenT enc W sp held m) : OpenT enc W sp held fuel := by
  intro cs x h
  obtain ⟨xs, n, rfl, rfl, hl, hlen, hf⟩ := DataW.trod_struct Tryz.underlying24 h
  rw [c24] at hl
  match xs, hlen with
  | [y0, y1, y2, y3], _ =>
    match cs, hl with
    | [v0, v1, v2, v3], _ =>
      have h0 := hf 0 _ rfl
      have h1 := hf 1 _ rfl
      have h2 := hf 2 _ rfl
      have h3 := hf 3 _ rfl
      simp [c3, c9, c22] at h0 h1 h2 h3
      obtain ⟨n0, e0, q0, w0⟩ := DataW.trod_int Tryz.underlying3 h0
      obtain ⟨n1, e1, q1, w1⟩ := DataW.trod_int Tryz.underlying3 h1
      obtain ⟨s2, e2, q2, w2⟩ := DataW.trod_string Tryz.underlying9 h2
      obtain ⟨u3, l3, e3, r3, z3⟩ := open_sl Ty.v tOk Tryz.underlying22 c24 (by omega) (of_decide_eq_true (by kernel_rfl)) (fun m hm cs x h => ih m (by omega) cs x h) h3
      simp at e0 e1 e2 e3
      subst e0 e1 e2 e3
      refine ⟨.mk n0 n1 s2.data.toList l3, by rw [Ty.v_eq]; rfl, ?_, fun hw => ?_⟩
      · rw [Ty.v_eq]
        have es : txt (Ty.mk n0 n1 s2.data.toList l3).name = .string s2 := by cases s2; rfl
        rw [es]
        exact .cons (.flat _ rfl) (.cons (.flat _ rfl) (.cons (.flat _ rfl) (.cons r3 .nil)))
      · rw [tOk_iff]
        have hr : reachBytes = 140737488351232 := rfl
        have e1 : s2.data.toList.length = s2.size := by rw [Array.length_toList]; rfl
        have hz := hw s2.size (by subst q0 q1 q2; simp [DataW.weights, Tryz.underlying24, DataW.weightsEach, e1])
        have hz3 := z3 fun k hk => hw k (by simp [DataW.weights, Tryz.underlying24, DataW.weightsEach, hk])
        exact ⟨rg_wf w1, by show s2.data.toList.length < _; omega, hz3.1, hz3.2⟩
theorem open_ty (fuel : Nat) : OpenT enc W sp held fuel := Nat.strongRecOn fuel fun n ih => open_ty1 ih
end
end Go.Proofs.YtcfpakjillacgaaGreatDoor
