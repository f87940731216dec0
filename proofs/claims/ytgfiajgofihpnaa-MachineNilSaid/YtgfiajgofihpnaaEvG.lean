/- The evaluator's operations that are no readers do what the model's do. -/
import Derived.Test.YtgfiajgofihpnaaEvF
namespace Go.Ev
noncomputable section
open Go.RowKit (Below)
variable {P : Program} {W w : World} {φ : Phi} {H : T OB} {tm : T Value} {ρ : Operand → Value} {g : Nat → Option OB}

/-- What comes of an operation: the model's value, and its world, stand to ours. -/
def EfOk (P : Program) (W : World) (φ : Phi) (H : T OB) (w : World) (r : Result Next) (v : Value) (H' : T OB) (nx' : Nat) : Prop :=
  ∃ φ' v' w' x, r = .ok x w' ∧ (x = .value v' ∨ (x = .skip ∧ v' = undef)) ∧ VR φ' v v' ∧ φ.le φ' ∧ HR P W φ' (hp H') w' ∧ φ'.length = nx' ∧ Keep φ φ' (hp H) (hp H')

theorem get_newOB (l : List Value) (i : Nat) (hi : i < l.length) : (fromL l 0 .leaf).get (bits i) = l[i]? := by
  rw [get_fromL, if_pos (by omega)]
  rfl

/-- Where a fresh block goes. -/
def fresh (φ : Phi) (r sz es : Nat) : Phi := (φ ++ [none]).set φ.length (some ⟨r, sz, es⟩)
theorem fresh_len (φ : Phi) (r sz es : Nat) : (fresh φ r sz es).length = φ.length + 1 := by simp [fresh]
theorem fresh_get (φ : Phi) (r sz es : Nat) : (fresh φ r sz es)[φ.length]? = some (some ⟨r, sz, es⟩) := by simp [fresh]
theorem fresh_le (φ : Phi) (r sz es : Nat) : φ.le (fresh φ r sz es) := Phi.le_trans (le_push φ none) (set_le (get_push φ none) _)
theorem fresh_keep (φ : Phi) (r sz es : Nat) (g : Nat → Option OB) (x : Option OB) : Keep φ (fresh φ r sz es) g (upd g φ.length x) := fun k h => by
  have hk := (List.getElem?_eq_some_iff.1 h).1
  refine ⟨?_, upd_other g (by omega) x⟩
  unfold fresh
  rw [List.getElem?_set_ne (by omega), List.getElem?_append_left hk]
  exact h

theorem HR.fresh (hH : HR P W φ g w) {n : Nat} {t : T Value} {el : TypeId} (c : Array Value) (el' : TypeId) (hn : n ≤ c.size)
    (hc : ∀ i, i < n → ∀ v, t.get (bits i) = some v → ∃ v', c[i]? = some v' ∧ VR φ v v') (es : Nat) (hes : ∀ z, szOf P el = some z → es = z) :
    HR P W (Ev.fresh φ w.heap.size c.size es) (upd g φ.length (some (.cells n t el))) (w.alloc (.cells c el')) :=
  (hH.pend (some (.cells n t el))).bind (get_push φ none) (upd_same _ _ _) c el' hn (fun i hi v hv => let ⟨v', a, b⟩ := hc i hi v hv; ⟨v', a, b.mono (le_push φ none)⟩) es hes

/-- A new row of cells. -/
theorem efNew (hH : HR P W φ (hp H) w) {l l' : List Value} (hl : LR φ l l') (e e' : TypeId) {r : Result Next} {nx : Nat} (hnx : φ.length = nx) {mk : Nat → Value} {mk' : Addr → Value}
    (hr : r = .ok (.value (mk' ⟨w.heap.size, 0, none⟩)) (w.alloc (.cells l'.toArray e')))
    (hv : ∀ ψ : Phi, ∀ en : Ent, ψ[nx]? = some (some en) → VR ψ (mk nx) (mk' ⟨en.r, 0, none⟩)) :
    EfOk P W φ H w r (mk nx) (set H (bits nx) (some (newOB l e))) (nx + 1) := by
  subst hnx
  have hlen := hl.len
  refine ⟨fresh φ w.heap.size l'.toArray.size ((szOf P e).getD 0), _, _, _, hr, .inl rfl, ?_, fresh_le _ _ _ _, ?_, fresh_len _ _ _ _, ?_⟩
  · exact hv _ _ (fresh_get _ _ _ _)
  · rw [hp_set]
    refine hH.fresh l'.toArray e' (by simp [hlen]) (fun i hi v hv => ?_) _ (fun z hz => by rw [hz]; rfl)
    rw [get_newOB l i hi] at hv
    obtain ⟨v', h1, h2⟩ := hl.get hv
    exact ⟨v', by simpa using h1, h2⟩
  · rw [hp_set]; exact fresh_keep _ _ _ _ _ _

theorem evs_LR : ∀ (l : List Operand) (vs : List Value), EvR φ tm ρ l → evs tm l = some vs → LR φ vs (l.map ρ)
  | [], vs, _, h => by cases h; exact .nil
  | x :: l, vs, hE, h => by
    unfold evs at h
    split at h
    · cases h
    · rename_i v hv
      split at h
      · cases h
      · rename_i us hus
        cases h
        exact .cons (hE x (by simp) v hv) (evs_LR l us (fun y hy => hE y (by simp [hy])) hus)

/-! what is no reader, one by one -/
theorem optK_eff {α : Type} {x : Option α} {k : α → Eff} {v : Value} {H' : T OB} {nx' : Nat} (h : optK x k .bad = .val v H' nx') : ∃ a, x = some a ∧ k a = .val v H' nx' := by
  cases x with
  | none => cases h
  | some a => exact ⟨a, rfl, h⟩
theorem bif_eff {b : Bool} {x : Eff} {v : Value} {H' : T OB} {nx' : Nat} (h : (bif b then x else .bad) = .val v H' nx') : b = true ∧ x = .val v H' nx' := by
  cases b
  · cases h
  · exact ⟨rfl, h⟩
theorem ptrK_eff {x : Option Value} {k : Nat → Nat → Eff} {v : Value} {H' : T OB} {nx' : Nat} (h : ptrK x k .bad = .val v H' nx') :
    ∃ b off, x = some (.pointer (some ⟨b, off, none⟩)) ∧ k b off = .val v H' nx' := by
  unfold ptrK at h
  split at h
  · exact ⟨_, _, rfl, h⟩
  · cases h
theorem cellsK_eff {x : Option OB} {k : Nat → T Value → TypeId → Eff} {v : Value} {H' : T OB} {nx' : Nat} (h : cellsK x k .bad = .val v H' nx') :
    ∃ n t e, x = some (.cells n t e) ∧ k n t e = .val v H' nx' := by
  unfold cellsK at h
  split at h
  · exact ⟨_, _, _, rfl, h⟩
  · cases h
theorem sliceTK_eff {t : TypeId} {k : TypeId → Nat → Eff} {v : Value} {H' : T OB} {nx' : Nat} (h : sliceTK P t k .bad = .val v H' nx') :
    ∃ e s, P.underlying t = some (.slice e) ∧ szOf P e = some s ∧ k e s = .val v H' nx' := by
  unfold sliceTK at h
  split at h
  · rename_i e he
    obtain ⟨s, h1, h2⟩ := optK_eff h
    exact ⟨e, s, he, h1, h2⟩
  · cases h

section ops
variable {o : Oper} {v : Value} {H' : T OB} {nx nx' : Nat}
theorem ef_alloc (hH : HR P W φ (hp H) w) (hnx : φ.length = nx) {e : TypeId} (ho : o.op = .alloc e) (h : efAlloc P H nx e = .val v H' nx') :
    EfOk P W φ H w ((execOp ρ o).run P w) v H' nx' := by
  unfold efAlloc at h
  obtain ⟨l, hz, h⟩ := optK_eff h
  rw [newK_eq] at h
  cases h
  obtain ⟨i, z, hi, hz2, hl, hf⟩ := zeroC_inv hz
  refine efNew (mk := ptrAt) (mk' := fun a => .pointer (some a)) hH (LR.of_flat hf) e e hnx ?_ (fun ψ en h => .ptr h)
  subst hl
  simp [execOp, ho, Instr.alloc, zeroValue, typeInfo, hi, hz2, newVar, newRow]

theorem ef_box (hH : HR P W φ (hp H) w) (hnx : φ.length = nx) {e : TypeId} {x : Operand} (ho : o.op = .box e x) (hE : ∀ v, eva tm x = some v → VR φ v (ρ x))
    (h : efBox H nx e (eva tm x) = .val v H' nx') : EfOk P W φ H w ((execOp ρ o).run P w) v H' nx' := by
  unfold efBox at h
  obtain ⟨u, hu, h⟩ := optK_eff h
  rw [newK_eq] at h
  cases h
  refine efNew (mk := ptrAt) (mk' := fun a => .pointer (some a)) hH (hE u hu).cells e e hnx ?_ (fun ψ en h => .ptr h)
  simp [execOp, ho, Instr.box, newVar, newRow]

theorem ef_store (hH : HR P W φ (hp H) w) (hnx : φ.length = nx) {t : TypeId} {a x : Operand} (ho : o.op = .store t a x) (hE : EvR φ tm ρ [a, x])
    (h : efStore P H nx t (eva tm a) (eva tm x) = .val v H' nx') : EfOk P W φ H w ((execOp ρ o).run P w) v H' nx' := by
  unfold efStore at h
  obtain ⟨b, off, ha, h⟩ := ptrK_eff h
  obtain ⟨u, hu, h⟩ := optK_eff h
  obtain ⟨n, tr, el, hg, h⟩ := cellsK_eff h
  obtain ⟨s, hs, h⟩ := optK_eff h
  obtain ⟨hc, h⟩ := bif_eff h
  rw [fromLK_fromL, setK_set] at h
  cases h
  simp only [Bool.and_eq_true] at hc
  have h1 := beq_eq hc.1.1
  have h2 := ble_le hc.1.2
  obtain ⟨e, hb, _, hpa⟩ := (hE a (by simp) _ ha).ptr_inv
  have hcells := (hE x (by simp) _ hu).cells
  obtain ⟨w', hrun, hH'⟩ := run_storeCells hb u.cells.toList (ρ x).cells.toList off 0 (hp H) w tr hH hg hcells hc.2 (by rw [h1]; omega)
  refine ⟨φ, undef, w', .skip, ?_, .inr ⟨rfl, rfl⟩, .flat _ rfl, φ.le_refl, ?_, hnx, ?_⟩
  · have hsz : (ρ x).cells.size = s := by have := hcells.len; simp at this h1; omega
    simp only [execOp, ho, hpa, Instr.storeAt, Instr.sureAddr, Sem.run_bind, Sem.run_pure, Result.andThen_ok, storeVar, run_size hs, hsz]
    simp [hrun]
  · rw [hp_set]
    exact hH'
  · intro k hk
    refine ⟨hk, ?_⟩
    rw [hp_set, upd_other]
    intro q
    subst q
    rw [hb] at hk
    cases hk

theorem zeroRow_flat {z : List Value} (hz : ∀ x ∈ z, flat x = true) (n : Nat) : ∀ x ∈ (zeroRow z n).toList, flat x = true := by
  intro x hx
  simp only [zeroRow, Array.toList_map, List.mem_map] at hx
  obtain ⟨i, _, rfl⟩ := hx
  by_cases hi : i % z.toArray.size < z.toArray.size
  · rw [getElem!_pos z.toArray _ hi]
    exact hz _ (by simp)
  · rw [getElem!_neg z.toArray _ hi]
    rfl

theorem ef_buildSlice (hH : HR P W φ (hp H) w) (hnx : φ.length = nx) {t : TypeId} {len : Nat} {ps : Array (Nat × Operand)} (ho : o.op = .buildSlice t len ps) (hE : EvR φ tm ρ o.op.operands.toList)
    (h : efBuildSlice P H nx t len (parts tm ps.toList) = .val v H' nx') : EfOk P W φ H w ((execOp ρ o).run P w) v H' nx' := by
  unfold efBuildSlice at h
  obtain ⟨vs, hvs, h⟩ := optK_eff h
  obtain ⟨e, s, hu, hs, h⟩ := sliceTK_eff h
  obtain ⟨z, hz, h⟩ := optK_eff h
  obtain ⟨hc, h⟩ := bif_eff h
  obtain ⟨cells, hf, h⟩ := optK_eff h
  rw [newK_eq, natF_eq] at h
  cases h
  simp only [Bool.and_eq_true] at hc
  have h1 := ble_le hc.1.1
  have h2 := blt_lt hc.1.2
  obtain ⟨i, z', hi, hz', hl, hfl⟩ := zeroC_inv hz
  have hp : PR φ vs (ps.toList.map fun p => (p.1, ρ p.2)) := parts_PR ps.toList vs (fun p hp => hE p.2 (by
    rw [ho]
    show p.2 ∈ ((ps.toList.map (·.2)).toArray).toList
    simp only [List.toList_toArray]
    exact List.mem_map.2 ⟨p, hp, rfl⟩)) hvs
  obtain ⟨cells', hf', hLR⟩ := fill_PR (fun i => some (i * s, s)) hp _ (zeroRow z (len * s)) cells (LR.of_flat (zeroRow_flat hfl _)) hf
  refine efNew (mk := fun k => .slice (some ⟨k, 0, none⟩) len len) (mk' := fun a => .slice (some a) len len) hH hLR e e hnx ?_ (fun ψ en h => ?_)
  · have hzc : z.toArray = z'.cells := by rw [← hl]
    have hf'' : Instr.fill (fun i => some (i * s, s)) (Array.map (fun x => z'.cells[x % z'.cells.size]!) (Array.range (len * s))) (ps.toList.map fun p => (p.1, ρ p.2)) = some cells' := by
      rw [← hzc]; exact hf'
    have e24 : (2 : Nat) ^ 24 = 16777216 := by decide
    have hne : ¬ (len * s > 2 ^ 24) := by rw [e24]; omega
    have hne0 : ¬ (len * s = 0) := by omega
    simp only [execOp, ho, Instr.buildSlice, Sem.run_bind, run_und hu, Result.andThen_ok, run_size hs, if_neg hne, if_neg hne0, Sem.run_pure]
    have hzr : (zeroValue e).run P w = .ok z' w := by simp [zeroValue, typeInfo, hi, hz']
    simp [hzr, hf'', newRow]
  · refine .slice h (.inl ⟨?_, rfl⟩)
    have : len ≤ len * s := Nat.le_mul_of_pos_right len (Nat.pos_of_ne_zero (fun q => by rw [q] at h2; simp at h2))
    unfold unk
    omega

theorem ef_makeSlice (hH : HR P W φ (hp H) w) (hnx : φ.length = nx) {t : TypeId} {l c : Operand} (ho : o.op = .makeSlice t l c) (hE : EvR φ tm ρ [l, c])
    (h : efMakeSlice P H nx t (eva tm l) (eva tm c) = .val v H' nx') : EfOk P W φ H w ((execOp ρ o).run P w) v H' nx' := by
  unfold efMakeSlice at h
  split at h
  case h_2 => cases h
  rename_i ln cn e hl hc hu
  split at h
  case h_2 => cases h
  rename_i i z hi hz
  obtain ⟨hb, h⟩ := bif_eff h
  rw [setK_set, natF_eq] at h
  cases h
  simp only [Bool.and_eq_true] at hb
  have h1 := ble_le hb.1.1.1
  have h2 := ble_le hb.1.1.2
  have h3 := ble_le hb.1.2
  have h4 := beq_eq hb.2
  subst hnx
  have hρl := (hE l (by simp) _ hl).eq_of_flat rfl
  have hρc := (hE c (by simp) _ hc).eq_of_flat rfl
  obtain ⟨i', z', hi', hz', hzl, hfl⟩ := zeroC_inv hz
  rw [hi] at hi'
  cases hi'
  have hs : szOf P e = some 1 := by unfold szOf; rw [hi]; exact congrArg some h4
  have hzr : ∀ w, (zeroValue e).run P w = .ok z' w := fun w => by simp [zeroValue, typeInfo, hi, hz']
  have hzc : z'.cells = #[z] := by
    have : z'.cells.toList.toArray = #[z] := by rw [hzl]
    simpa using this
  let row : Array Value := (Array.range cn).map fun _ => z
  have hrun : (execOp ρ o).run P w = .ok (.value (.slice (some ⟨w.heap.size, 0, none⟩) ln cn)) (w.alloc (.cells row e)) := by
    have w1 : IntKind.i64.wrap (ln : Int) = ln := by
      unfold IntKind.wrap
      have : IntKind.i64.bits = 64 := rfl
      have : IntKind.i64.signed = true := rfl
      simp only [*, Bool.true_and]
      have e1 : (ln : Int) % 2 ^ 64 = ln := Int.emod_eq_of_lt (by omega) (by omega)
      rw [e1]
      rw [if_neg (by simp; omega)]
    have w2 : IntKind.i64.wrap (cn : Int) = cn := by
      unfold IntKind.wrap
      have : IntKind.i64.bits = 64 := rfl
      have : IntKind.i64.signed = true := rfl
      simp only [*, Bool.true_and]
      have e1 : (cn : Int) % 2 ^ 64 = cn := Int.emod_eq_of_lt (by omega) (by omega)
      rw [e1]
      rw [if_neg (by simp; omega)]
    have b1 : ¬ ((i.bytes : Int) * (cn : Int) > 2 ^ 48) := by
      have : (i.bytes : Int) * (cn : Int) = ((i.bytes * cn : Nat) : Int) := by simp
      rw [this]
      omega
    have hcond : (decide ((cn : Int) < 0) || decide ((i.bytes : Int) * (cn : Int) > 2 ^ 48) || decide ((ln : Int) < 0) || decide ((ln : Int) > (cn : Int))) = false := by
      simp only [Bool.or_eq_false_iff, decide_eq_false_iff_not]
      exact ⟨⟨⟨by omega, b1⟩, by omega⟩, by omega⟩
    simp only [execOp, ho, Instr.makeSlice, Sem.run_bind, run_und hu, Result.andThen_ok, hρl, hρc, asInt, asIntOf, Sem.run_pure, typeInfo, run_program, hi, Int.ofNat_eq_natCast, w1, w2]
    simp only [hcond]
    by_cases h0 : cn = 0
    · subst h0
      simp [run_size hs, newRow, row]
      have e0 : Array.range 0 = #[] := Array.ext' (by simp)
      rw [e0, Array.map_empty, Array.map_empty]
    · simp [run_size hs, newRow, row, h0, hzr, hzc]
      congr 2
      apply Array.ext'
      simp
      intro a ha
      have : a % 1 = 0 := Nat.mod_one a
      simp [this]
  have hfull : ∀ k, k < cn → (full 40 z).get (bits k) = some z := fun k hk => get_full z 40 _ (bits_length (by
    have : (2 : Nat) ^ 40 = 1099511627776 := by decide
    omega))
  refine ⟨fresh φ w.heap.size row.size 1, _, _, _, hrun, .inl rfl, ?_, fresh_le _ _ _ _, ?_, fresh_len _ _ _ _, ?_⟩
  · exact .slice (fresh_get _ _ _ _) (.inl ⟨by unfold unk; omega, rfl⟩)
  · rw [hp_set]
    refine hH.fresh row e (by simp [row]) (fun k hk v hv => ?_) 1 (fun y hy => by rw [hs] at hy; cases hy; rfl)
    rw [hfull k hk] at hv
    cases hv
    exact ⟨z, by simp [row, hk], .flat z (hfl z (by simp))⟩
  · rw [hp_set]; exact fresh_keep _ _ _ _ _ _
end ops
end
end Go.Ev
