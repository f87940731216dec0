/- Blocks, functions, by value; what is known, and the law's call. -/
import Derived.Test.YtfdgoenmdalphaaDoorK15
namespace Go.Proofs.YtfdgoenmdalphaaDoor
open Go.Ev Go.RowKit Go.ChangeShapes Go.WideShapes Go.ChangeAt
noncomputable section
set_option maxRecDepth 100000
set_option linter.unusedVariables false
set_option linter.unusedSimpArgs false
variable {H : Type} {enc : TypeId × Value → H} {W : World} {sp : Nat → Bool} {held : Bool}
def OpenB (enc : TypeId × Value → H) (W : World) (sp : Nat → Bool) (held : Bool) (fuel : Nat) : Prop := ∀ cs x, DataW.trod enc P W 0 sp held fuel 31 cs = some x → ∃ b : Block, b.v.cells.toList.length = 4 ∧ LR (phiW W) b.v.cells.toList cs ∧ (Wt 31 x.1 → bSm b)
theorem open_step {fuel : Nat} (ih : ∀ m, m < fuel → OpenB enc W sp held m) {cs : List Value} {x : DataW H × List MemPlace} (h : DataW.trod enc P W 0 sp held fuel 62 cs = some x) : ∃ s : Step, s.v.cells.toList.length = 5 ∧ LR (phiW W) s.v.cells.toList cs ∧ (Wt 62 x.1 → stSm s) := by
  obtain ⟨xs, n, rfl, rfl, hl, hlen, hf⟩ := DataW.trod_struct Tryd.underlying62 h
  rw [c62] at hl
  match xs, hlen with
  | [y0, y1, y2, y3, y4], _ =>
    match cs, hl with
    | [v0, v1, v2, v3, v4], _ =>
      have h0 := hf 0 _ rfl
      have h1 := hf 1 _ rfl
      have h2 := hf 2 _ rfl
      have h3 := hf 3 _ rfl
      have h4 := hf 4 _ rfl
      simp [c3, c27, c29] at h0 h1 h2 h3 h4
      obtain ⟨n0, e0, q0, w0⟩ := DataW.trod_int Tryd.underlying3 h0
      obtain ⟨n1, e1, q1, w1⟩ := DataW.trod_int Tryd.underlying3 h1
      obtain ⟨n2, e2, q2, w2⟩ := DataW.trod_int Tryd.underlying3 h2
      obtain ⟨u3, l3, e3, r3, z3⟩ := open_sl Atom.v (fun a => a.t.size < big) Tryd.underlying27 c26 (by omega) (of_decide_eq_true (by kernel_rfl)) (fun m _ cs x h => open_atom h) h3
      obtain ⟨u4, l4, e4, r4, z4⟩ := open_sl Block.v bSm Tryd.underlying29 c31 (by omega) (of_decide_eq_true (by kernel_rfl)) (fun m hm cs x h => ih m (by omega) cs x h) h4
      simp at e0 e1 e2 e3 e4
      subst e0 e1 e2 e3 e4
      refine ⟨.mk n0 n1 n2 l3 l4, by rw [Step.v_eq]; rfl, ?_, fun hw => ?_⟩
      · rw [Step.v_eq]
        exact .cons (.flat _ rfl) (.cons (.flat _ rfl) (.cons (.flat _ rfl) (.cons r3 (.cons r4 .nil))))
      · rw [stSm_iff]
        have hz3 := z3 fun k hk => hw k (by simp [DataW.weights, Tryd.underlying62, DataW.weightsEach, hk])
        have hz4 := z4 fun k hk => hw k (by simp [DataW.weights, Tryd.underlying62, DataW.weightsEach, hk])
        exact ⟨⟨hz3.1, hz3.2⟩, hz4.1, hz4.2⟩
theorem open_block1 {fuel : Nat} (ih : ∀ m, m < fuel → OpenB enc W sp held m) : OpenB enc W sp held fuel := by
  intro cs x h
  obtain ⟨xs, n, rfl, rfl, hl, hlen, hf⟩ := DataW.trod_struct Tryd.underlying31 h
  rw [c31] at hl
  match xs, hlen with
  | [y0, y1, y2, y3], _ =>
    match cs, hl with
    | [v0, v1, v2, v3], _ =>
      have h0 := hf 0 _ rfl
      have h1 := hf 1 _ rfl
      have h2 := hf 2 _ rfl
      have h3 := hf 3 _ rfl
      simp [c3, c28, c27, c29] at h0 h1 h2 h3
      obtain ⟨u0, l0, e0, r0, z0⟩ := open_sl Step.v stSm Tryd.underlying28 c62 (by omega) (of_decide_eq_true (by kernel_rfl)) (fun m hm cs x h => open_step (fun k hk => ih k (by omega)) h) h0
      obtain ⟨n1, e1, q1, w1⟩ := DataW.trod_int Tryd.underlying3 h1
      obtain ⟨u2, l2, e2, r2, z2⟩ := open_sl Atom.v (fun a => a.t.size < big) Tryd.underlying27 c26 (by omega) (of_decide_eq_true (by kernel_rfl)) (fun m _ cs x h => open_atom h) h2
      obtain ⟨u3, l3, e3, r3, z3⟩ := open_sl Block.v bSm Tryd.underlying29 c31 (by omega) (of_decide_eq_true (by kernel_rfl)) (fun m hm cs x h => ih m (by omega) cs x h) h3
      simp at e0 e1 e2 e3
      subst e0 e1 e2 e3
      refine ⟨.mk l0 n1 l2 l3, by rw [Block.v_eq]; rfl, ?_, fun hw => ?_⟩
      · rw [Block.v_eq]
        exact .cons r0 (.cons (.flat _ rfl) (.cons r2 (.cons r3 .nil)))
      · rw [bSm_iff]
        have hz0 := z0 fun k hk => hw k (by simp [DataW.weights, Tryd.underlying31, DataW.weightsEach, hk])
        have hz2 := z2 fun k hk => hw k (by simp [DataW.weights, Tryd.underlying31, DataW.weightsEach, hk])
        have hz3 := z3 fun k hk => hw k (by simp [DataW.weights, Tryd.underlying31, DataW.weightsEach, hk])
        exact ⟨hz0.1, ⟨hz2.1, hz2.2⟩, hz3.1, hz0.2, hz3.2⟩
theorem open_block (fuel : Nat) : OpenB enc W sp held fuel := Nat.strongRecOn fuel fun n ih => open_block1 ih
theorem open_fun {fuel : Nat} {cs : List Value} {x : DataW H × List MemPlace} (h : DataW.trod enc P W 0 sp held fuel 33 cs = some x) : ∃ f : Fun, f.v.cells.toList.length = 6 ∧ LR (phiW W) f.v.cells.toList cs ∧ (Wt 33 x.1 → bSm f.body) := by
  obtain ⟨xs, n, rfl, rfl, hl, hlen, hf⟩ := DataW.trod_struct Tryd.underlying33 h
  rw [c33] at hl
  match xs, hlen with
  | [y0, y1, y2], _ =>
    match cs, hl with
    | [v0, v1, v2, v3, v4, v5], _ =>
      have h0 := hf 0 _ rfl
      have h1 := hf 1 _ rfl
      have h2 := hf 2 _ rfl
      simp [c3, c31] at h0 h1 h2
      obtain ⟨n0, e0, q0, w0⟩ := DataW.trod_int Tryd.underlying3 h0
      obtain ⟨n1, e1, q1, w1⟩ := DataW.trod_int Tryd.underlying3 h1
      obtain ⟨b, hb1, hb2, hb3⟩ := open_block n _ _ h2
      simp at e0 e1
      subst e0 e1
      refine ⟨⟨n0, n1, b⟩, rfl, ?_, fun hw => ?_⟩
      · have hb2' := hb2
        rw [b.v_eq] at hb2'
        exact .cons (.flat _ rfl) (.cons (.flat _ rfl) hb2')
      · exact hb3 fun k hk => hw k (by simp [DataW.weights, Tryd.underlying33, DataW.weightsEach, hk])
theorem open_funs {A : Option Addr} {ln cp : Nat} {d : DataW H} {ps : List MemPlace} (h : DataW.Trod enc P W 0 sp held 22 (.slice A ln cp) d ps) : ∃ fs : List Fun, VR (phiW W) (funsV fs) (.slice A ln cp) ∧ (Wt 22 d → fs.length < big ∧ ∀ f, f ∈ fs → bSm f.body) := by
  obtain ⟨fuel, hf⟩ := h
  obtain ⟨u, l, e, r, z⟩ := open_sl Fun.v (fun f => bSm f.body) Tryd.underlying22 c33 (by omega) (of_decide_eq_true (by kernel_rfl)) (fun m _ cs x h => open_fun h) hf
  have e' : [Value.slice A ln cp] = [u] := e
  cases e'
  exact ⟨l, r, z⟩
/-- Package variables alone. -/
def phiG (n : Nat) : Phi := (List.range n).map fun k => some ⟨k, 0, 0, none⟩
theorem phiG_length (n : Nat) : (phiG n).length = n := by simp [phiG]
theorem phiG_get {n k : Nat} {e : Ent} (h : (phiG n)[k]? = some (some e)) : k < n ∧ e = ⟨k, 0, 0, none⟩ := by
  unfold phiG at h
  rw [List.getElem?_map] at h
  by_cases hk : k < n
  · rw [List.getElem?_range hk] at h
    simp at h
    exact ⟨hk, h.symm⟩
  · rw [List.getElem?_eq_none (by simp; omega)] at h
    cases h
theorem HR_G {w : World} (hg : P.globals.size ≤ w.heap.size) : HR P w (phiG P.globals.size) (hp .leaf) w where
  below := .refl _ _
  dom := fun k ob h => by rw [hp_leaf] at h; cases h
  rng := fun k e h => by obtain ⟨h1, rfl⟩ := phiG_get h; exact Nat.lt_of_lt_of_le h1 hg
  inj := fun k k' ob ob' e e' _ _ h => by rw [hp_leaf] at h; cases h
  obj := fun k ob e h => by rw [hp_leaf] at h; cases h
  gl := fun k hk => ⟨⟨k, 0, 0, none⟩, by unfold phiG; rw [List.getElem?_map, List.getElem?_range hk]; rfl, rfl⟩
  fzr := fun k e c h hf => by obtain ⟨h1, rfl⟩ := phiG_get h; cases hf
  fzl := fun k k' e e' c ob _ _ _ h => by rw [hp_leaf] at h; cases h
theorem isTrue_inv {r : Option Rt} (h : isTrue r = true) : ∃ H nx, r = some ⟨.ret (.bool true), false, H, nx⟩ := by
  unfold isTrue at h
  split at h
  · exact ⟨_, _, rfl⟩
  · cases h
theorem ext_none (w : World) : ExtOK P w (fun _ _ => none) := fun f args v h => by cases h
theorem X_ok (hg : P.globals.size ≤ W.heap.size) : ExtOK P W X := by
  intro f args v h
  unfold X at h
  split at h
  · cases h
    refine ⟨fun x hx => (nomatch hx), rfl, fun w hb => ?_⟩
    obtain ⟨H', nx', hr⟩ := isTrue_inv known_run
    have hgw : P.globals.size ≤ w.heap.size := Nat.le_trans hg hb.size
    refine (calls_of_F (pl := pl0) (ext_none w) (HR_G hgw) (phiG_length _) .nil rfl (F_of hr)).mono fun e w' ⟨he, hb'⟩ => ⟨he, hb'⟩
  · cases h
end
end Go.Proofs.YtfdgoenmdalphaaDoor
