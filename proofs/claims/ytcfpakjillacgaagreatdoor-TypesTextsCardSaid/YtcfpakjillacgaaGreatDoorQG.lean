/- The evaluator's operations that are no readers do what the model's do. -/
import Derived.Test.YtcfpakjillacgaaGreatDoorQF
namespace Go.Ev
noncomputable section
open Go.RowKit (Below)
variable {P : Program} {W w : World} {φ : Phi} {H : T OB} {tm : T Value} {ρ : Operand → Value} {g : Nat → Option OB}

/-- What comes of an operation: the model's value, and its world, stand to ours. -/
def EfOk (P : Program) (W : World) (φ : Phi) (H : T OB) (w : World) (r : Result Next) (v : Value) (H' : T OB) (nx' : Nat) : Prop :=
  ∃ φ' v' w' x, r = .ok x w' ∧ (x = .value v' ∨ (x = .skip ∧ v' = undef)) ∧ VR φ' v v' ∧ φ.le φ' ∧ HR P W φ' (hp H') w' ∧ φ'.length = nx' ∧ Keep φ φ' (hp H) (hp H')

theorem get_newOB (l : List Value) (i : Nat) (hi : i < l.length) : (fromL l 0 .leaf).get (bits i) = l[i]? := by
  rw [get_fromL, if_pos (by omega)]
  rfl

/-- A new row, whose first cells stand to ours. -/
theorem newOB_R {l l' : List Value} (hl : LR φ l l') (e e' : TypeId) (rest : Array Value) {es : Nat} (hes : ∀ z, szOf P e = some z → es = z) (hb : Below W.heap.size W w) :
    OBR P W φ (newOB l e) ⟨w.heap.size, (l'.toArray ++ rest).size, es, none⟩ (w.alloc (.cells (l'.toArray ++ rest) e')) := by
  refine ⟨hb.size, ⟨_, e', Go.heap_alloc_new w _, rfl, by simp [hl.len], fun i hi v hv => ?_⟩, hes⟩
  rw [get_newOB l i hi] at hv
  obtain ⟨v', h1, h2⟩ := hl.get hv
  refine ⟨v', ?_, h2⟩
  have hi' : i < l'.toArray.size := by simp; rw [← hl.len]; exact hi
  rw [Array.getElem?_append_left hi']
  simpa using h1

/-- A new row of cells. -/
theorem efNew (hH : HR P W φ (hp H) w) {l l' : List Value} (hl : LR φ l l') (e e' : TypeId) {r : Result Next} {nx : Nat} (hnx : φ.length = nx) {mk : Nat → Value} {mk' : Addr → Value}
    (hr : r = .ok (.value (mk' ⟨w.heap.size, 0, none⟩)) (w.alloc (.cells l'.toArray e')))
    (hv : ∀ ψ : Phi, ∀ en : Ent, ψ[nx]? = some (some en) → VR ψ (mk nx) (mk' ⟨en.r, 0, none⟩)) :
    EfOk P W φ H w r (mk nx) (set H (bits nx) (some (newOB l e))) (nx + 1) := by
  subst hnx
  refine ⟨fresh φ w.heap.size (l'.toArray ++ #[]).size ((szOf P e).getD 0), _, _, _, hr, .inl rfl, ?_, fresh_le _ _ _ _, ?_, fresh_len _ _ _ _, ?_⟩
  · exact hv _ _ (fresh_get _ _ _ _)
  · rw [hp_set]
    have := hH.fresh (.cells (l'.toArray ++ #[]) e') (newOB_R (P := P) hl e e' #[] (es := (szOf P e).getD 0) (fun z hz => by rw [hz]; rfl) hH.below)
    rw [Array.append_empty] at this
    rw [Array.append_empty]
    exact this
  · rw [hp_set]; exact fresh_keep _ _ _ _ _ _

/-! what is no reader, one by one -/
theorem optK_eff {α : Type} {x : Option α} {k : α → Eff} {v : Value} {H' : T OB} {nx' : Nat} (h : optK x k .bad = .val v H' nx') : ∃ a, x = some a ∧ k a = .val v H' nx' := by
  cases x with
  | none => cases h
  | some a => exact ⟨a, rfl, h⟩
theorem bif_eff {b : Bool} {x : Eff} {v : Value} {H' : T OB} {nx' : Nat} (h : (bif b then x else .bad) = .val v H' nx') : b = true ∧ x = .val v H' nx' := by
  cases b
  · cases h
  · exact ⟨rfl, h⟩
theorem ptrK_eff {x : Option Value} {k : Nat → Nat → Eff} {v : Value} {H' : T OB} {nx' : Nat} (h : ptrK x k .bad = .val v H' nx') :
    ∃ b off, x = some (.pointer (some ⟨b, off, none⟩)) ∧ k b off = .val v H' nx' := by
  unfold ptrK at h
  split at h
  · exact ⟨_, _, rfl, h⟩
  · cases h
theorem cellsK_eff {x : Option OB} {k : Nat → T Value → TypeId → Eff} {v : Value} {H' : T OB} {nx' : Nat} (h : cellsK x k .bad = .val v H' nx') :
    ∃ n t e, x = some (.cells n t e) ∧ k n t e = .val v H' nx' := by
  unfold cellsK at h
  split at h
  · exact ⟨_, _, _, rfl, h⟩
  · cases h
theorem sliceTK_eff {t : TypeId} {k : TypeId → Nat → Eff} {v : Value} {H' : T OB} {nx' : Nat} (h : sliceTK P t k .bad = .val v H' nx') :
    ∃ e s, P.underlying t = some (.slice e) ∧ szOf P e = some s ∧ k e s = .val v H' nx' := by
  unfold sliceTK at h
  split at h
  · rename_i e he
    obtain ⟨s, h1, h2⟩ := optK_eff h
    exact ⟨e, s, he, h1, h2⟩
  · cases h

section ops
variable {o : Oper} {v : Value} {H' : T OB} {nx nx' : Nat}
theorem ef_alloc (hH : HR P W φ (hp H) w) (hnx : φ.length = nx) {e : TypeId} (ho : o.op = .alloc e) (h : efAlloc P H nx e = .val v H' nx') :
    EfOk P W φ H w ((execOp ρ o).run P w) v H' nx' := by
  unfold efAlloc at h
  obtain ⟨l, hz, h⟩ := optK_eff h
  rw [newK_eq] at h
  cases h
  obtain ⟨i, z, hi, hz2, hl, hf⟩ := zeroC_inv hz
  refine efNew (mk := ptrAt) (mk' := fun a => .pointer (some a)) hH (LR.of_flat hf) e e hnx ?_ (fun ψ en h => .ptr h)
  subst hl
  simp [execOp, ho, Instr.alloc, zeroValue, typeInfo, hi, hz2, newVar, newRow]

theorem ef_box (hH : HR P W φ (hp H) w) (hnx : φ.length = nx) {e : TypeId} {x : Operand} (ho : o.op = .box e x) (hE : ∀ v, eva P tm x = some v → VR φ v (ρ x))
    (h : efBox H nx e (eva P tm x) = .val v H' nx') : EfOk P W φ H w ((execOp ρ o).run P w) v H' nx' := by
  unfold efBox at h
  obtain ⟨u, hu, h⟩ := optK_eff h
  rw [newK_eq] at h
  cases h
  refine efNew (mk := ptrAt) (mk' := fun a => .pointer (some a)) hH (hE u hu).cells e e hnx ?_ (fun ψ en h => .ptr h)
  simp [execOp, ho, Instr.box, newVar, newRow]

theorem ef_store (hH : HR P W φ (hp H) w) (hnx : φ.length = nx) {t : TypeId} {a x : Operand} (ho : o.op = .store t a x) (hE : EvR P φ tm ρ [a, x])
    (h : efStore P H nx t (eva P tm a) (eva P tm x) = .val v H' nx') : EfOk P W φ H w ((execOp ρ o).run P w) v H' nx' := by
  unfold efStore at h
  obtain ⟨b, off, ha, h⟩ := ptrK_eff h
  obtain ⟨u, hu, h⟩ := optK_eff h
  obtain ⟨n, tr, el, hg, h⟩ := cellsK_eff h
  obtain ⟨s, hs, h⟩ := optK_eff h
  obtain ⟨hc, h⟩ := bif_eff h
  rw [fromLK_fromL, setK_set] at h
  cases h
  simp only [Bool.and_eq_true] at hc
  have h1 := beq_eq hc.1.1
  have h2 := ble_le hc.1.2
  obtain ⟨e, hb, _, hpa⟩ := (hE a (by simp) _ ha).ptr_inv
  have hcells := (hE x (by simp) _ hu).cells
  obtain ⟨w', hrun, hH'⟩ := run_storeCells hb u.cells.toList (ρ x).cells.toList off 0 (hp H) w tr hH hg hcells hc.2 (by rw [h1]; omega)
  refine ⟨φ, undef, w', .skip, ?_, .inr ⟨rfl, rfl⟩, .flat _ rfl, φ.le_refl, ?_, hnx, ?_⟩
  · have hsz : (ρ x).cells.size = s := by have := hcells.len; simp at this h1; omega
    simp only [execOp, ho, hpa, Instr.storeAt, Instr.sureAddr, Sem.run_bind, Sem.run_pure, Result.andThen_ok, storeVar, run_size hs, hsz]
    simp [hrun]
  · rw [hp_set]
    exact hH'
  · intro k hk
    refine ⟨hk, ?_⟩
    rw [hp_set, upd_other]
    intro q
    subst q
    rw [hb] at hk
    cases hk

theorem zeroRow_flat {z : List Value} (hz : ∀ x ∈ z, flat x = true) (n : Nat) : ∀ x ∈ (zeroRow z n).toList, flat x = true := by
  intro x hx
  simp only [zeroRow, Array.toList_map, List.mem_map] at hx
  obtain ⟨i, _, rfl⟩ := hx
  by_cases hi : i % z.toArray.size < z.toArray.size
  · rw [getElem!_pos z.toArray _ hi]
    exact hz _ (by simp)
  · rw [getElem!_neg z.toArray _ hi]
    rfl

theorem ef_buildSlice (hH : HR P W φ (hp H) w) (hnx : φ.length = nx) {t : TypeId} {len : Nat} {ps : Array (Nat × Operand)} (ho : o.op = .buildSlice t len ps) (hE : EvR P φ tm ρ o.op.operands.toList)
    (h : efBuildSlice P H nx t len (parts P tm ps.toList) = .val v H' nx') : EfOk P W φ H w ((execOp ρ o).run P w) v H' nx' := by
  unfold efBuildSlice at h
  obtain ⟨vs, hvs, h⟩ := optK_eff h
  obtain ⟨e, s, hu, hs, h⟩ := sliceTK_eff h
  obtain ⟨z, hz, h⟩ := optK_eff h
  obtain ⟨hc, h⟩ := bif_eff h
  obtain ⟨cells, hf, h⟩ := optK_eff h
  rw [newK_eq, natF_eq] at h
  cases h
  simp only [Bool.and_eq_true] at hc
  have h1 := ble_le hc.1.1
  have h2 := blt_lt hc.1.2
  obtain ⟨i, z', hi, hz', hl, hfl⟩ := zeroC_inv hz
  have hp : PR φ vs (ps.toList.map fun p => (p.1, ρ p.2)) := parts_PR ps.toList vs (fun p hp => hE p.2 (by
    rw [ho]
    show p.2 ∈ ((ps.toList.map (·.2)).toArray).toList
    simp only [List.toList_toArray]
    exact List.mem_map.2 ⟨p, hp, rfl⟩)) hvs
  obtain ⟨cells', hf', hLR⟩ := fill_PR (fun i => some (i * s, s)) hp _ (zeroRow z (len * s)) cells (LR.of_flat (zeroRow_flat hfl _)) hf
  refine efNew (mk := fun k => .slice (some ⟨k, 0, none⟩) len len) (mk' := fun a => .slice (some a) len len) hH hLR e e hnx ?_ (fun ψ en h => ?_)
  · have hzc : z.toArray = z'.cells := by rw [← hl]
    have hf'' : Instr.fill (fun i => some (i * s, s)) (Array.map (fun x => z'.cells[x % z'.cells.size]!) (Array.range (len * s))) (ps.toList.map fun p => (p.1, ρ p.2)) = some cells' := by
      rw [← hzc]; exact hf'
    have e24 : (2 : Nat) ^ 24 = 16777216 := by decide
    have hne : ¬ (len * s > 2 ^ 24) := by rw [e24]; omega
    have hne0 : ¬ (len * s = 0) := by omega
    simp only [execOp, ho, Instr.buildSlice, Sem.run_bind, run_und hu, Result.andThen_ok, run_size hs, if_neg hne, if_neg hne0, Sem.run_pure]
    have hzr : (zeroValue e).run P w = .ok z' w := by simp [zeroValue, typeInfo, hi, hz']
    simp [hzr, hf'', newRow]
  · refine .slice h (.inl ⟨?_, rfl⟩)
    have : len ≤ len * s := Nat.le_mul_of_pos_right len (Nat.pos_of_ne_zero (fun q => by rw [q] at h2; simp at h2))
    unfold unk
    omega

theorem wrap_nat {n : Nat} (h : n ≤ 274877906944) : IntKind.i64.wrap (n : Int) = n := by
  unfold IntKind.wrap
  have : IntKind.i64.bits = 64 := rfl
  have : IntKind.i64.signed = true := rfl
  simp only [*, Bool.true_and]
  have e1 : (n : Int) % 2 ^ 64 = n := Int.emod_eq_of_lt (by omega) (by omega)
  rw [e1]
  rw [if_neg (by simp; omega)]

theorem rowL_length (z : List Value) : ∀ n, (rowL z n).length = n * z.length
  | 0 => by simp [rowL]
  | n + 1 => by rw [rowL, List.length_append, rowL_length z n, Nat.succ_mul]; omega
theorem rowL_get (z : List Value) : ∀ n i, i < n * z.length → (rowL z n)[i]? = z[i % z.length]?
  | 0, i, h => by omega
  | n + 1, i, h => by
    rw [rowL]
    by_cases hi : i < z.length
    · rw [List.getElem?_append_left hi, Nat.mod_eq_of_lt hi]
    · rw [List.getElem?_append_right (by omega), rowL_get z n _ (by rw [Nat.succ_mul] at h; omega)]
      rw [← Nat.mod_eq_sub_mod (by omega)]
theorem rowL_eq {z : List Value} (hz : 0 < z.length) (n : Nat) : (zeroRow z (n * z.length)) = (rowL z n).toArray := by
  apply Array.ext
  · simp [zeroRow, rowL_length]
  · intro i h1 h2
    simp only [zeroRow, Array.size_map, Array.size_range] at h1
    have hm : i % z.length < z.length := Nat.mod_lt _ hz
    have h3 := rowL_get z n i h1
    rw [List.getElem?_eq_getElem hm, List.getElem?_eq_getElem (by rw [rowL_length]; exact h1)] at h3
    injection h3 with h3
    simp only [zeroRow, Array.getElem_map, Array.getElem_range, List.getElem_toArray, List.size_toArray]
    rw [h3, getElem!_pos z.toArray _ (by simpa using hm)]
    simp

theorem run_makeSlice {t e : TypeId} {i : TypeInfo} {z' : Value} {l c : Operand} {ln cn : Nat} (ho : o.op = .makeSlice t l c) (hρl : ρ l = .int .i64 (.ofNat ln)) (hρc : ρ c = .int .i64 (.ofNat cn)) (hu : P.underlying t = some (.slice e))
    (hi : P.info? e = some i) (hz' : i.zero = some z') (hsz : i.size = z'.cells.size) (h0 : 0 < i.size) (h1 : ln ≤ cn) (h2 : i.bytes * cn ≤ 281474976710656) (h3 : cn ≤ 274877906944) (w : World) :
    (execOp ρ o).run P w = .ok (.value (.slice (some ⟨w.heap.size, 0, none⟩) ln cn)) (w.alloc (.cells (zeroRow z'.cells.toList (cn * i.size)) e)) := by
  have hs : szOf P e = some i.size := by unfold szOf; rw [hi]
  have hzr : ∀ w, (zeroValue e).run P w = .ok z' w := fun w => by simp [zeroValue, typeInfo, hi, hz']
  have w1 := wrap_nat (n := ln) (by omega)
  have w2 := wrap_nat (n := cn) h3
  have b1 : ¬ ((i.bytes : Int) * (cn : Int) > 2 ^ 48) := by
    have : (i.bytes : Int) * (cn : Int) = ((i.bytes * cn : Nat) : Int) := by simp
    rw [this]
    omega
  have hcond : (decide ((cn : Int) < 0) || decide ((i.bytes : Int) * (cn : Int) > 2 ^ 48) || decide ((ln : Int) < 0) || decide ((ln : Int) > (cn : Int))) = false := by
    simp only [Bool.or_eq_false_iff, decide_eq_false_iff_not]
    exact ⟨⟨⟨by omega, b1⟩, by omega⟩, by omega⟩
  simp only [execOp, ho, Instr.makeSlice, Sem.run_bind, run_und hu, Result.andThen_ok, hρl, hρc, asInt, asIntOf, Sem.run_pure, typeInfo, run_program, hi, Int.ofNat_eq_natCast, w1, w2]
  simp only [hcond]
  by_cases hc0 : cn = 0
  · subst hc0
    have e0 : Array.range 0 = #[] := Array.ext' (by simp)
    simp [run_size hs, newRow, zeroRow, e0]
  · have hne : ¬ (cn * i.size = 0) := fun q => by
      rcases Nat.mul_eq_zero.1 q with q | q <;> omega
    simp [run_size hs, newRow, zeroRow, hzr]
    exact fun q => absurd q hne

theorem mk_sl (hH : HR P W φ (hp H) w) (hnx : φ.length = nx) {t : TypeId} {l c : Operand} (ho : o.op = .makeSlice t l c) {e : TypeId} (hu : P.underlying t = some (.slice e)) {ln cn : Nat} (hρl : ρ l = .int .i64 (.ofNat ln)) (hρc : ρ c = .int .i64 (.ofNat cn))
    (h : mkSl P H nx e ln cn = .val v H' nx') : EfOk P W φ H w ((execOp ρ o).run P w) v H' nx' := by
  unfold mkSl at h
  split at h
  case h_2 => cases h
  rename_i i z hi hz
  obtain ⟨hb, h⟩ := bif_eff h
  simp only [Bool.and_eq_true] at hb
  have h1 := ble_le hb.1.1.1.1
  have h2 := ble_le hb.1.1.1.2
  have h3 := ble_le hb.1.1.2
  have h4 := beq_eq hb.1.2
  have h0 := blt_lt hb.2
  subst hnx
  obtain ⟨i', z', hi', hz', hzl, hfl⟩ := zeroC_inv hz
  rw [hi] at hi'
  cases hi'
  have hsz : i.size = z'.cells.size := by rw [h4, ← hzl]; simp
  have hs : szOf P e = some i.size := by unfold szOf; rw [hi]
  have hrun := run_makeSlice (P := P) (ρ := ρ) ho hρl hρc hu hi hz' hsz h0 h1 h2 h3 w
  rw [hzl, h4] at hrun
  split at h
  · rename_i z0 hb0
    rw [setK_set, natF_eq] at h
    cases h
    have hfull : ∀ k, k < cn → (full 40 z0).get (bits k) = some z0 := fun k hk => get_full z0 40 _ (bits_length (by
      have : (2 : Nat) ^ 40 = 1099511627776 := by decide
      omega))
    rw [rowL_eq (by simp)] at hrun
    refine ⟨fresh φ w.heap.size (rowL [z0] cn).toArray.size 1, _, _, _, hrun, .inl rfl, .slice (fresh_get _ _ _ _) (.inl ⟨by unfold unk; omega, rfl⟩), fresh_le _ _ _ _, ?_, fresh_len _ _ _ _, ?_⟩
    · rw [hp_set]
      refine hH.fresh _ ⟨hH.below.size, ⟨_, e, Go.heap_alloc_new w _, rfl, by simp [rowL_length], fun k hk v hv => ?_⟩, fun y hy => by rw [hs] at hy; cases hy; rw [h4]; rfl⟩
      rw [hfull k hk] at hv
      cases hv
      refine ⟨z0, ?_, .flat z0 (hfl z0 (by simp))⟩
      rw [List.getElem?_toArray, rowL_get [z0] cn k (by simpa using hk)]
      simp [Nat.mod_one]
    · rw [hp_set]; exact fresh_keep _ _ _ _ _ _
  · obtain ⟨hbig, h⟩ := bif_eff h
    rw [newK_eq] at h
    cases h
    rw [rowL_eq (by omega)] at hrun
    exact efNew (mk := fun k => .slice (some ⟨k, 0, none⟩) ln cn) (mk' := fun a => .slice (some a) ln cn) hH (LR.of_flat (l := rowL z cn) (fun x hx => by
      obtain ⟨k, hk, rfl⟩ := List.mem_iff_getElem.1 hx
      have hk' := hk
      rw [rowL_length] at hk'
      have h5 := rowL_get z cn k hk'
      rw [List.getElem?_eq_getElem hk] at h5
      exact hfl _ (List.mem_of_getElem? h5.symm))) e e rfl hrun (fun ψ en hen => .slice hen (.inl ⟨by unfold unk; omega, rfl⟩))

theorem intNK_eff {i : Int} {k : Nat → Eff} {v : Value} {H' : T OB} {nx' : Nat} (h : intNK i k .bad = .val v H' nx') : ∃ n : Nat, i = .ofNat n ∧ k n = .val v H' nx' := by
  cases i with
  | ofNat n => exact ⟨n, rfl, (natF_eq n k).symm.trans h⟩
  | negSucc n => cases h
theorem ef_makeSlice (hH : HR P W φ (hp H) w) (hnx : φ.length = nx) {t : TypeId} {l c : Operand} (ho : o.op = .makeSlice t l c) (hE : EvR P φ tm ρ [l, c])
    (h : efMakeSlice P H nx t (eva P tm l) (eva P tm c) = .val v H' nx') : EfOk P W φ H w ((execOp ρ o).run P w) v H' nx' := by
  unfold efMakeSlice at h
  split at h
  case h_2 => cases h
  rename_i ln0 cn0 e hl hc hu
  obtain ⟨ln, rfl, h1⟩ := intNK_eff h
  obtain ⟨cn, rfl, h2⟩ := intNK_eff h1
  exact mk_sl hH hnx ho hu ((hE l (by simp) _ hl).eq_of_flat rfl) ((hE c (by simp) _ hc).eq_of_flat rfl) h2
end ops
end
end Go.Ev
