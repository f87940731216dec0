/- A region with a draw: our fixed order of it, and the model's. -/
import Derived.Test.YtcfpakjillacgaaGreatDoorQJ
namespace Go.Ev
noncomputable section
open Go.RowKit (Below)
variable {P : Program} {W w : World} {φ : Phi} {H : T OB} {tm : T Value} {tmps : Array Value} {ops : Array Oper}

/-! the model's frames, and its steps -/
/-- What of a frame of the model's stays. -/
structure FB where
  fn : FuncId
  kind : CallKind
  ds : List Deferred
def mkF (b : FB) (tmps : Array Value) (todo : List Item) : Frame := { fn := b.fn, tmps, todo, defers := b.ds, mode := .run, kind := b.kind }
def evalA (tmps : Array Value) : Operand → Value := Act.eval ⟨tmps, []⟩
theorem evalA_eq (tmps : Array Value) (ds : List Deferred) : Act.eval ⟨tmps, ds⟩ = evalA tmps := by funext x; cases x <;> rfl
def putA (tmps : Array Value) (dst : Option Tmp) (v : Value) : Array Value := match dst with
  | some d => tmps.setIfInBounds d v
  | none => tmps
theorem put_mk (tmps : Array Value) (ds : List Deferred) (dst : Option Tmp) (v : Value) : (Act.put ⟨tmps, ds⟩ dst v) = ⟨putA tmps dst v, ds⟩ := by cases dst <;> rfl
theorem putA_size (tmps : Array Value) (dst : Option Tmp) (v : Value) : (putA tmps dst v).size = tmps.size := by cases dst <;> simp [putA]

section steps
variable {fn : FB} {i : Nat} {rest : List Nat} {k : List Item} {cs : List Frame} {w' : World} {o : Oper}
theorem fin_mk (ho : ops[i]? = some o) (v : Value) : (mkF fn tmps (.inRegion ops (i :: rest) :: k)).finish v = mkF fn (putA tmps o.dst v) (.inRegion ops rest :: k) := by
  have := Frame.finish_at (mkF fn #[] []) ⟨tmps, fn.ds⟩ ops i rest k v
  rw [ho] at this
  rw [show ((some o : Option Oper).bind (·.dst)) = o.dst from rfl, put_mk] at this
  exact this
theorem op_g (ho : ops[i]? = some o) (hw : Region.wanted o (yielded ops tmps) = true) :
    stepG P true { frame := mkF fn tmps (.inRegion ops (i :: rest) :: k), callers := cs, status := .running, dying := none } w =
      stepG.apply P true (mkF fn tmps (.inRegion ops (i :: rest) :: k)) cs none (execOp (evalA tmps) o) w := by
  have := stepG_op (P := P) (b := mkF fn #[] []) (a := ⟨tmps, fn.ds⟩) (cs := cs) (w := w) (k := k) (rest := rest) ho hw
  rw [evalA_eq] at this
  exact this
theorem step_value (ho : ops[i]? = some o) (hw : Region.wanted o (yielded ops tmps) = true) {v : Value} (hr : (execOp (evalA tmps) o).run P w = .ok (.value v) w') :
    step P (lone (mkF fn tmps (.inRegion ops (i :: rest) :: k)) cs w) = .next (lone (mkF fn (putA tmps o.dst v) (.inRegion ops rest :: k)) cs w') :=
  step_lone_go (by rw [op_g ho hw, ← fin_mk ho]; simp [stepG.apply, hr])
theorem step_skipv (ho : ops[i]? = some o) (hw : Region.wanted o (yielded ops tmps) = true) (hr : (execOp (evalA tmps) o).run P w = .ok .skip w') :
    step P (lone (mkF fn tmps (.inRegion ops (i :: rest) :: k)) cs w) = .next (lone (mkF fn (putA tmps o.dst undef) (.inRegion ops rest :: k)) cs w') :=
  step_lone_go (by rw [op_g ho hw, ← fin_mk ho]; simp [stepG.apply, hr])
theorem step_enter (ho : ops[i]? = some o) (hw : Region.wanted o (yielded ops tmps) = true) {f : FuncId} {args : Array Value} (hr : (execOp (evalA tmps) o).run P w = .ok (.enter f args) w') :
    step P (lone (mkF fn tmps (.inRegion ops (i :: rest) :: k)) cs w) =
      .next (lone (Frame.enter P f args .normal) (mkF fn tmps (.inRegion ops (i :: rest) :: k) :: cs) w') :=
  step_lone_go (by rw [op_g ho hw]; simp [stepG.apply, hr, mkF])
theorem step_dfr (ho : ops[i]? = some o) (hw : Region.wanted o (yielded ops tmps) = true) {d : Deferred} (hr : (execOp (evalA tmps) o).run P w = .ok (.defer d) w') :
    step P (lone (mkF fn tmps (.inRegion ops (i :: rest) :: k)) cs w) = .next (lone (mkF ⟨fn.fn, fn.kind, d :: fn.ds⟩ (putA tmps o.dst undef) (.inRegion ops rest :: k)) cs w') :=
  step_lone_go (by
    rw [op_g ho hw, ← fin_mk (fn := ⟨fn.fn, fn.kind, d :: fn.ds⟩) ho]
    simp only [stepG.apply, Sem.runT_eq, hr, GStep.bare_after]
    rfl)
theorem step_pan (ho : ops[i]? = some o) (hw : Region.wanted o (yielded ops tmps) = true) {v : Value} (hr : (execOp (evalA tmps) o).run P w = .halt (.panic v) w') :
    step P (lone (mkF fn tmps (.inRegion ops (i :: rest) :: k)) cs w) = .next (lone { mkF fn tmps (.inRegion ops (i :: rest) :: k) with mode := .panicking [{ v, recovered := false }] } cs w') :=
  step_lone_go (by
    rw [op_g ho hw]
    simp only [stepG.apply, Sem.runT_eq, hr, GStep.bare_after]
    rfl)
theorem step_rcv_none (ho : ops[i]? = some o) (hw : Region.wanted o (yielded ops tmps) = true) (hr : (execOp (evalA tmps) o).run P w = .ok .recover w')
    (ht : tryRecover (mkF fn tmps (.inRegion ops (i :: rest) :: k)) cs = none) :
    step P (lone (mkF fn tmps (.inRegion ops (i :: rest) :: k)) cs w) = .next (lone (mkF fn (putA tmps o.dst .nilIface) (.inRegion ops rest :: k)) cs w') :=
  step_lone_go (by
    rw [op_g ho hw, ← fin_mk ho]
    have ht' : tryRecover { fn := fn.fn, tmps, todo := .inRegion ops (i :: rest) :: k, defers := fn.ds, mode := .run, kind := fn.kind } cs = none := ht
    simp [stepG.apply, hr, mkF, ht'])
theorem step_rcv_some (ho : ops[i]? = some o) (hw : Region.wanted o (yielded ops tmps) = true) (hr : (execOp (evalA tmps) o).run P w = .ok .recover w') {v : Value} {cs' : List Frame}
    (ht : tryRecover (mkF fn tmps (.inRegion ops (i :: rest) :: k)) cs = some (v, cs')) :
    step P (lone (mkF fn tmps (.inRegion ops (i :: rest) :: k)) cs w) = .next (lone (mkF fn (putA tmps o.dst v) (.inRegion ops rest :: k)) cs' w') :=
  step_lone_go (by
    rw [op_g ho hw, ← fin_mk ho]
    have ht' : tryRecover { fn := fn.fn, tmps, todo := .inRegion ops (i :: rest) :: k, defers := fn.ds, mode := .run, kind := fn.kind } cs = some (v, cs') := ht
    simp [stepG.apply, hr, mkF, ht'])
theorem step_not (ho : ops[i]? = some o) (hw : Region.wanted o (yielded ops tmps) = false) :
    step P (lone (mkF fn tmps (.inRegion ops (i :: rest) :: k)) cs w) = .next (lone (mkF fn (putA tmps o.dst undef) (.inRegion ops rest :: k)) cs w) := by
  have := step_op_skip (P := P) (b := mkF fn #[] []) (a := ⟨tmps, fn.ds⟩) (k := k) (cs := cs) (w := w) (ops := ops) (i := i) (rest := rest) (by simp [ho, hw])
  rw [ho, show ((some o : Option Oper).bind (·.dst)) = o.dst from rfl, put_mk] at this
  exact this
end steps

/-! temporaries -/
def TRm (φ : Phi) (M : Nat → Prop) (tm : T Value) (tmps : Array Value) : Prop := ∀ t v, tm.get (bits t) = some v → M t ∨ ∃ v', tmps[t]? = some v' ∧ VR φ v v'
theorem TRm.mono {ψ : Phi} {M : Nat → Prop} (hle : φ.le ψ) (h : TRm φ M tm tmps) : TRm ψ M tm tmps := fun t v q => (h t v q).imp id fun ⟨v', a, b⟩ => ⟨v', a, b.mono hle⟩

theorem EvR_of {M : Nat → Prop} (hG : ∀ g, g < P.globals.size → ∃ e : Ent, φ[g]? = some (some e) ∧ e.r = g) (h : TRm φ M tm tmps) {l : List Operand} (hl : ∀ t, Operand.tmp t ∈ l → ¬ M t) : EvR P φ tm (evalA tmps) l := by
  intro x hx v hv
  cases x with
  | tmp t =>
    rcases h t v hv with q | ⟨v', h1, h2⟩
    · exact absurd q (hl t hx)
    · have : evalA tmps (.tmp t) = v' := by
        simp only [evalA, Act.eval, Array.getD_eq_getD_getElem?, h1, Option.getD_some]
      rw [this]
      exact h2
  | const c =>
    have hv : (bif flat c then some c else none) = some v := hv
    obtain ⟨h1, h2⟩ := bif_inv hv
    cases h2
    exact .flat _ h1
  | global g =>
    obtain ⟨h1, h2⟩ := bif_inv (show (bif Nat.blt g P.globals.size then some (Value.pointer (some ⟨g, 0, none⟩)) else none) = some v from hv)
    cases h2
    obtain ⟨e, h3, h4⟩ := hG g (blt_lt h1)
    have : evalA tmps (.global g) = .pointer (some ⟨e.r, 0, none⟩) := by rw [h4]; rfl
    rw [this]
    exact .ptr h3
  | func f => cases hv; exact .flat _ rfl

theorem wanted_of {M : Nat → Prop} (h : TRm φ M tm tmps) {o : Oper} (hl : ∀ p, o.guard = some p → ∀ d, dstOf ops p.1 = some d → ¬ M d) {b : Bool}
    (hw : wantedO tm ops o = some b) : Region.wanted o (yielded ops tmps) = b := by
  unfold wantedO at hw
  unfold Region.wanted
  split at hw
  · rename_i hg
    rw [hg]
    cases hw
    rfl
  · rename_i p hg
    obtain ⟨j, want⟩ := p
    rw [hg]
    obtain ⟨d, hd, hy⟩ := optK_inv hw
    have hM := hl (j, want) hg d hd
    have hd' : (ops[j]?).bind (·.dst) = some d := by
      unfold dstOf at hd
      cases hj : ops[j]? with
      | none => rw [hj] at hd; cases hd
      | some q => rw [hj] at hd; exact hd
    show (yielded ops tmps j == some want) = b
    unfold yieldO at hy
    split at hy
    · rename_i x hx
      cases hy
      rcases h d _ hx with q | ⟨v', h1, h2⟩
      · exact absurd q hM
      · have := h2.eq_of_flat rfl
        subst this
        have e : yielded ops tmps j = some x := by
          unfold yielded
          rw [hd']
          simp only [Option.bind_some, h1]
        rw [e]
        cases x <;> cases want <;> rfl
    · rename_i c hx
      cases hy
      rcases h d _ hx with q | ⟨v', h1, h2⟩
      · exact absurd q hM
      · obtain ⟨c', rfl, _⟩ := h2.tuple_inv
        have e : yielded ops tmps j = none := by
          unfold yielded
          rw [hd']
          simp only [Option.bind_some, h1]
        rw [e]
        rfl
    · cases hy

def tmPut (tm : T Value) (dst : Option Tmp) (v : Value) : T Value := match dst with
  | some d => set tm (bits d) (some v)
  | none => tm
theorem get_tmPut (tm : T Value) (dst : Option Tmp) (v : Value) (t : Nat) : (tmPut tm dst v).get (bits t) = if dst = some t then some v else tm.get (bits t) := by
  cases dst with
  | none => rfl
  | some d =>
    show (set tm (bits d) (some v)).get (bits t) = _
    rw [get_at]
    by_cases h : t = d
    · subst h; simp
    · rw [if_neg h, if_neg (by simp; exact fun q => h q.symm)]
theorem eva_tmPut (tm : T Value) (dst : Option Tmp) (v : Value) (x : Operand) (h : ∀ d, dst = some d → x ≠ .tmp d) : eva P (tmPut tm dst v) x = eva P tm x := by
  cases x with
  | tmp t =>
    show (tmPut tm dst v).get (bits t) = tm.get (bits t)
    rw [get_tmPut, if_neg (fun q => h t q rfl)]
  | _ => rfl
theorem get_putA {tmps : Array Value} {dst : Option Tmp} {v : Value} {t : Nat} (h : ∀ d, dst = some d → d < tmps.size) :
    (putA tmps dst v)[t]? = if dst = some t then some v else tmps[t]? := by
  cases dst with
  | none => rfl
  | some d =>
    show (tmps.setIfInBounds d v)[t]? = _
    by_cases ht : d = t
    · subst ht
      rw [Array.getElem?_setIfInBounds_self_of_lt (h d rfl)]
      simp
    · rw [Array.getElem?_setIfInBounds_ne ht, if_neg (by simpa using ht)]
theorem TRm.put {M M' : Nat → Prop} (h : TRm φ M tm tmps) {dst : Option Tmp} {v v' : Value} (hd : ∀ d, dst = some d → d < tmps.size) (hv : VR φ v v') (hM : ∀ t, M t → dst ≠ some t → M' t) :
    TRm φ M' (tmPut tm dst v) (putA tmps dst v') := by
  intro t u hu
  rw [get_tmPut] at hu
  rw [get_putA hd]
  by_cases ht : dst = some t
  · rw [if_pos ht] at hu ⊢
    cases hu
    exact .inr ⟨v', rfl, hv⟩
  · rw [if_neg ht] at hu ⊢
    exact (h t u hu).imp (fun q => hM t q ht) id

/-! our order of a region, and the model's -/
/-- What a new variable, or a row that is written out, comes to: its cells, and what points at them. -/
def alR (P : Program) (tm : T Value) (o : Op) (e : TypeId) (l : List Value) (mk : Nat → Value) : Prop :=
  (o = .alloc e ∧ zeroC P e = some l ∧ mk = ptrAt) ∨
  (∃ (t : TypeId) (len : Nat) (ps : Array (Nat × Operand)) (vs : List (Nat × Value)) (s : Nat) (z : List Value) (cells : Array Value), o = .buildSlice t len ps ∧ parts P tm ps.toList = some vs ∧ P.underlying t = some (.slice e) ∧ szOf P e = some s ∧ zeroC P e = some z ∧
    (Nat.ble (len * s) 16777216 && Nat.blt 0 (len * s) && Nat.blt 0 z.length) = true ∧ Instr.fill (fun i => some (i * s, s)) (zeroRow z (len * s)) vs = some cells ∧ l = cells.toList ∧ mk = fun nx => .slice (some ⟨nx, 0, none⟩) len len)
theorem ef_al {o : Oper} {nx : Nat} {H' : T OB} (hal : isAl o.op = true) {v : Value} {nx' : Nat} (h : ef P H nx tm o = .val v H' nx') : ∃ e l mk, alR P tm o.op e l mk ∧ v = mk nx ∧ H' = set H (bits nx) (some (newOB l e)) ∧ nx' = nx + 1 := by
  unfold ef at h
  split at h
  · rename_i e he
    unfold efAlloc at h
    obtain ⟨l, hz, h⟩ := optK_eff h
    rw [newK_eq] at h
    cases h
    exact ⟨e, l, ptrAt, .inl ⟨he, hz, rfl⟩, rfl, rfl, rfl⟩
  · rename_i he; rw [he] at hal; cases hal
  · rename_i he; rw [he] at hal; cases hal
  · rename_i t len ps he
    unfold efBuildSlice at h
    obtain ⟨vs, hvs, h⟩ := optK_eff h
    obtain ⟨e, s, hu, hs, h⟩ := sliceTK_eff h
    obtain ⟨z, hz, h⟩ := optK_eff h
    obtain ⟨hc, h⟩ := bif_eff h
    obtain ⟨cells, hf, h⟩ := optK_eff h
    rw [newK_eq, natF_eq] at h
    cases h
    exact ⟨e, _, _, .inr ⟨t, len, ps, vs, s, z, cells, he, hvs, hu, hs, hz, hc, hf, rfl, rfl⟩, rfl, rfl, rfl⟩
  all_goals first
    | (rename_i he; rw [he] at hal; cases hal)
    | cases h
theorem al_run {o : Oper} {ρ : Operand → Value} {e : TypeId} {l : List Value} {mk : Nat → Value} (hE : EvR P φ tm ρ o.op.operands.toList) (h : alR P tm o.op e l mk) :
    ∃ (l' : List Value) (mk' : Addr → Value), LR φ l l' ∧ (execOp ρ o).run P w = .ok (.value (mk' ⟨w.heap.size, 0, none⟩)) (w.alloc (.cells l'.toArray e)) ∧ ∀ (ψ : Phi) (k : Nat) (en : Ent), ψ[k]? = some (some en) → VR ψ (mk k) (mk' ⟨en.r, 0, none⟩) := by
  rcases h with ⟨ho, hz, rfl⟩ | ⟨t, len, ps, vs, s, z, cells, ho, hvs, hu, hs, hz, hc, hf, rfl, rfl⟩
  · obtain ⟨i, z, hi', hz', hl, hfl⟩ := zeroC_inv hz
    refine ⟨l, fun a => .pointer (some a), LR.of_flat hfl, ?_, fun ψ k en hk => .ptr hk⟩
    have hrun : (execOp ρ o).run P w = .ok (.value (.pointer (some ⟨w.heap.size, 0, none⟩))) (w.alloc (.cells z.cells e)) := by
      simp [execOp, ho, Instr.alloc, zeroValue, typeInfo, hi', hz', newVar, newRow]
    rw [hrun, ← hl]
  · simp only [Bool.and_eq_true] at hc
    have h1 := ble_le hc.1.1
    have h2 := blt_lt hc.1.2
    obtain ⟨i, z', hi, hz', hl, hfl⟩ := zeroC_inv hz
    have hp : PR φ vs (ps.toList.map fun p => (p.1, ρ p.2)) := parts_PR ps.toList vs (fun p hp => hE p.2 (by
      rw [ho]
      show p.2 ∈ ((ps.toList.map (·.2)).toArray).toList
      exact List.mem_map.2 ⟨p, hp, rfl⟩)) hvs
    obtain ⟨cells', hf', hLR⟩ := fill_PR (fun i => some (i * s, s)) hp _ (zeroRow z (len * s)) cells (LR.of_flat (zeroRow_flat hfl _)) hf
    refine ⟨cells'.toList, fun a => .slice (some a) len len, hLR, ?_, fun ψ k en hk => .slice hk (.inl ⟨?_, rfl⟩)⟩
    · have hzc : z.toArray = z'.cells := by rw [← hl]
      have hf'' : Instr.fill (fun i => some (i * s, s)) (Array.map (fun x => z'.cells[x % z'.cells.size]!) (Array.range (len * s))) (ps.toList.map fun p => (p.1, ρ p.2)) = some cells' := by
        rw [← hzc]; exact hf'
      have e24 : (2 : Nat) ^ 24 = 16777216 := by decide
      have hne : ¬ (len * s > 2 ^ 24) := by rw [e24]; omega
      have hne0 : ¬ (len * s = 0) := by omega
      simp only [execOp, ho, Instr.buildSlice, Sem.run_bind, run_und hu, Result.andThen_ok, run_size hs, if_neg hne, if_neg hne0, Sem.run_pure]
      have hzr : (zeroValue e).run P w = .ok z' w := by simp [zeroValue, typeInfo, hi, hz']
      simp [hzr, hf'', newRow]
    · have : len ≤ len * s := Nat.le_mul_of_pos_right len (Nat.pos_of_ne_zero (fun q => by rw [q] at h2; simp at h2))
      unfold unk
      omega
theorem alR_inj {o : Op} {e e' : TypeId} {l l' : List Value} {mk mk' : Nat → Value} (h : alR P tm o e l mk) (h' : alR P tm o e' l' mk') : e = e' := by
  rcases h with ⟨ho, _, _⟩ | ⟨t, len, ps, vs, s, z, cells, ho, _, hu, _⟩ <;> rcases h' with ⟨ho', _, _⟩ | ⟨t', len', ps', vs', s', z', cells', ho', _, hu', _⟩ <;> rw [ho] at ho' <;> cases ho'
  · rfl
  · rw [hu] at hu'; cases hu'; rfl
theorem alR_congr {tm tm' : T Value} {o : Op} {e : TypeId} {l : List Value} {mk : Nat → Value} (hx : ∀ x ∈ o.operands.toList, eva P tm' x = eva P tm x) (h : alR P tm o e l mk) : alR P tm' o e l mk := by
  rcases h with h | ⟨t, len, ps, vs, s, z, cells, ho, hvs, h⟩
  · exact .inl h
  · refine .inr ⟨t, len, ps, vs, s, z, cells, ho, ?_, h⟩
    rw [← hvs]
    refine parts_congr _ fun p hp => hx p.2 ?_
    rw [ho]
    show p.2 ∈ ((ps.toList.map (·.2)).toArray).toList
    exact List.mem_map.2 ⟨p, hp, rfl⟩
/-- What is promised of an operation of ours, given ahead of the model's. -/
def Prom (P : Program) (φ : Phi) (H : T OB) (tm : T Value) (ops : Array Oper) (κ : Nat → Nat) (lo hi : Nat) (p : Nat) (o : Oper) : Prop :=
  (wantedO tm ops o = some false ∧ ∀ d, o.dst = some d → tm.get (bits d) = some undef) ∨
  (wantedO tm ops o = some true ∧ isRd o.op = true ∧ ∃ u, (∀ d, o.dst = some d → tm.get (bits d) = some u) ∧ (isLd o.op = false → rd P H tm o = some u)) ∨
  (wantedO tm ops o = some true ∧ isAl o.op = true ∧ ∃ e l mk, alR P tm o.op e l mk ∧ φ[κ p]? = some none ∧ hp H (κ p) = some (newOB l e) ∧ lo ≤ κ p ∧ κ p < hi ∧
    ∀ d, o.dst = some d → tm.get (bits d) = some (mk (κ p)))

def Mask (ops : Array Oper) (done π : List Nat) (t : Nat) : Prop := ∃ p, p ∈ π ∧ p ∈ done ∧ dstOf ops p = some t

structure DrawC (P : Program) (φ : Phi) (H : T OB) (tm : T Value) (tmps : Array Value) (ops : Array Oper) (done lds : List Nat) (pl : List (Nat × List Nat)) (π : List Nat) (κ : Nat → Nat) (lo hi : Nat) : Prop where
  sa : saOk ops = true
  ac : acyclic ops = true
  plan : okPlan ops (anOf ops) done lds pl = true
  lin : LinOk ops π
  todo : ∀ i, i < ops.size → i ∉ done → i ∈ π
  closed : ∀ i, i ∉ π → ∀ o, ops[i]? = some o → ∀ e ∈ o.after, Region.binds .any e = true → e.on ∉ π
  ready : ∀ i, i ∈ done → ∀ o, ops[i]? = some o → readyIn ops done o = true
  tr : TRm φ (Mask ops done π) tm tmps
  dsts : ∀ i o d, ops[i]? = some o → o.dst = some d → i ∈ done → d < tmps.size
  prom : ∀ p, p ∈ π → p ∈ done → ∀ o, ops[p]? = some o → Prom P φ H tm ops κ lo hi p o
  lds : ∀ p, p ∈ π → p ∈ done → ∀ o, ops[p]? = some o → isLd o.op = true → p ∈ lds
  inj : ∀ p q, p ∈ π → p ∈ done → q ∈ π → q ∈ done → ∀ o o', ops[p]? = some o → ops[q]? = some o' → isAl o.op = true → isAl o'.op = true →
    wantedO tm ops o = some true → wantedO tm ops o' = some true → κ p = κ q → p = q
  own : ∀ p, p ∈ π → p ∈ done → p ∉ antis ops

/-- What a load, given ahead, would read is what it read. -/
def LoadP (P : Program) (H : T OB) (tm : T Value) (ops : Array Oper) (done π : List Nat) : Prop :=
  ∀ p, p ∈ π → p ∈ done → ∀ o, ops[p]? = some o → isLd o.op = true → wantedO tm ops o = some true → ∃ u, rd P H tm o = some u ∧ ∀ d, o.dst = some d → tm.get (bits d) = some u

theorem direct_iff {o : Oper} {j : Nat} : direct o j = true ↔ ∃ e ∈ o.after, Region.binds .any e = true ∧ e.on = j := by
  unfold direct
  rw [List.any_eq_true]
  constructor
  · rintro ⟨e, he, h⟩
    simp only [Bool.and_eq_true, beq_iff_eq] at h
    exact ⟨e, by simpa using he, h.1, h.2⟩
  · rintro ⟨e, he, h1, h2⟩
    exact ⟨e, by simpa using he, by simp [h1, h2]⟩

theorem sa_reads (hs : saOk ops = true) {i j : Nat} {o q : Oper} {d : Tmp} (hi : ops[i]? = some o) (hj : ops[j]? = some q) (hd : q.dst = some d) (hl : d ∈ o.looksAt ops) : direct o j = true ∨ direct q i = true := by
  have h1 := List.all_eq_true.1 hs i (List.mem_range.2 (Array.getElem?_eq_some_iff.1 hi).1)
  have h2 := List.all_eq_true.1 h1 j (List.mem_range.2 (Array.getElem?_eq_some_iff.1 hj).1)
  simp only [hi, hj, hd, Bool.and_eq_true, Bool.or_eq_true, Bool.not_eq_true'] at h2
  rcases h2.1 with (h3 | h3) | h3
  · have h4 : (o.looksAt ops).contains d = true := by simpa using hl
    rw [h3] at h4
    cases h4
  · exact .inl h3
  · exact .inr h3
/-- Who looks at what one writes that may be given ahead hangs on it. -/
theorem not_anti {i j : Nat} (hn : j ∉ antis ops) {o q : Oper} {d : Tmp} (hi : ops[i]? = some o) (hj : ops[j]? = some q) (hd : q.dst = some d) (hl : d ∈ o.looksAt ops) : direct o j = true := by
  cases h : direct o j with
  | true => rfl
  | false =>
    refine absurd ?_ hn
    unfold antis
    rw [List.mem_filter]
    refine ⟨List.mem_range.2 (Array.getElem?_eq_some_iff.1 hj).1, ?_⟩
    simp only [hj, hd]
    rw [List.any_eq_true]
    refine ⟨i, List.mem_range.2 (Array.getElem?_eq_some_iff.1 hi).1, ?_⟩
    simp only [hi, h]
    have h4 : (o.looksAt ops).contains d = true := by simpa using hl
    rw [h4]; rfl
theorem sa_dst (hs : saOk ops = true) {i j : Nat} {o q : Oper} {d : Tmp} (hi : ops[i]? = some o) (hj : ops[j]? = some q) (hd : q.dst = some d) (hne : i ≠ j) : o.dst ≠ some d := by
  have h1 := List.all_eq_true.1 hs i (List.mem_range.2 (Array.getElem?_eq_some_iff.1 hi).1)
  have h2 := List.all_eq_true.1 h1 j (List.mem_range.2 (Array.getElem?_eq_some_iff.1 hj).1)
  simp only [hi, hj, hd, Bool.and_eq_true, Bool.or_eq_true, Bool.not_eq_true', beq_iff_eq, bne_iff_ne] at h2
  exact h2.2.resolve_left hne

theorem looks_op {o : Oper} {t : Nat} (h : Operand.tmp t ∈ o.op.operands.toList) : t ∈ o.looksAt ops := by
  unfold Oper.looksAt
  exact List.mem_append_left _ (List.mem_filterMap.2 ⟨.tmp t, h, rfl⟩)
theorem looks_guard {o : Oper} {p : Nat × Bool} {d : Tmp} (hg : o.guard = some p) (hd : dstOf ops p.1 = some d) : d ∈ o.looksAt ops := by
  unfold Oper.looksAt
  refine List.mem_append_right _ ?_
  obtain ⟨j, b⟩ := p
  rw [hg]
  have hd' : (ops[j]?).bind (·.dst) = some d := by
    unfold dstOf at hd
    cases hj : ops[j]? with
    | none => rw [hj] at hd; cases hd
    | some q => rw [hj] at hd; exact hd
  simp only [hd', Option.toList_some, List.mem_singleton]

theorem dstOf_some {ops : Array Oper} {p t : Nat} (h : dstOf ops p = some t) : ∃ q, ops[p]? = some q ∧ q.dst = some t := by
  unfold dstOf at h
  cases hj : ops[p]? with
  | none => rw [hj] at h; cases h
  | some q => rw [hj] at h; exact ⟨q, rfl, h⟩

/-- What the next operation of the model looks at, nothing given ahead of it writes. -/
theorem head_free {q : Nat} {π : List Nat} (hlin : LinOk ops (q :: π)) {done : List Nat} (hown : ∀ p, p ∈ q :: π → p ∈ done → p ∉ antis ops) {o : Oper} (ho : ops[q]? = some o) {t : Nat} (ht : t ∈ o.looksAt ops) : ¬ Mask ops done (q :: π) t := by
  rintro ⟨p, hp, hpd, hd⟩
  obtain ⟨oq, h1, h2⟩ := dstOf_some hd
  have h3 := direct_iff.1 (not_anti (hown p hp hpd) ho h1 h2 ht)
  obtain ⟨e, he, hb, hon⟩ := h3
  obtain ⟨⟨o', ho', hdeps⟩, _⟩ := hlin
  rw [ho] at ho'
  cases ho'
  exact hdeps e he hb (by rw [hon]; exact hp)

section
variable {done lds : List Nat} {pl : List (Nat × List Nat)} {π : List Nat} {κ : Nat → Nat} {lo hi : Nat} {fn : FB} {k : List Item} {cs : List Frame}

theorem isAl_rd {op : Op} (h : isAl op = true) : isRd op = false := by
  cases op <;> first | rfl | cases h
theorem isAl_ld {op : Op} (h : isAl op = true) : isLd op = false := by
  cases op <;> first | rfl | cases h
theorem anOf_sub {j : Nat} (h : j ∉ anOf ops) : j ∉ antis ops := fun q => h (by
  unfold anOf
  split
  · exact List.mem_append_left _ q
  · exact q)

/-- What was given ahead, the model does. -/
theorem exec_pend (hH : HR P W φ (hp H) w) {q : Nat} (hD : DrawC P φ H tm tmps ops done lds pl (q :: π) κ lo hi) (hL : LoadP P H tm ops done (q :: π)) (hq : q ∈ done) :
    ∃ φ' tmps' w', step P (lone (mkF fn tmps (.inRegion ops (q :: π) :: k)) cs w) = .next (lone (mkF fn tmps' (.inRegion ops π :: k)) cs w') ∧
      φ.le φ' ∧ HR P W φ' (hp H) w' ∧ φ'.length = φ.length ∧ (∀ j, j < lo → φ[j]? = some none → φ'[j]? = some none) ∧
      DrawC P φ' H tm tmps' ops done lds pl π κ lo hi ∧ LoadP P H tm ops done π ∧ tmps'.size = tmps.size := by
  obtain ⟨⟨o, ho, hdeps⟩, hnq, hlin⟩ := hD.lin
  have hop : EvR P φ tm (evalA tmps) o.op.operands.toList := EvR_of hH.gl hD.tr fun t ht => head_free hD.lin hD.own ho (looks_op ht)
  have hgd : ∀ b, wantedO tm ops o = some b → Region.wanted o (yielded ops tmps) = b := fun b hb => wanted_of hD.tr (fun p hp d hd => head_free hD.lin hD.own ho (looks_guard hp hd)) hb
  have hd : ∀ d, o.dst = some d → d < tmps.size := fun d h => hD.dsts q o d ho h hq
  -- the rest of it, once the value is there
  have rest : ∀ (ψ : Phi) (u u' : Value), φ.le ψ → (∀ d, o.dst = some d → tm.get (bits d) = some u) → VR ψ u u' →
      (∀ p, p ∈ π → p ∈ done → ∀ o', ops[p]? = some o' → Prom P ψ H tm ops κ lo hi p o') → DrawC P ψ H tm (putA tmps o.dst u') ops done lds pl π κ lo hi := by
    intro ψ u u' hle hu hv hp
    refine ⟨hD.sa, hD.ac, hD.plan, hlin, fun i hi hn => ?_, fun i hi x hx e he hb => ?_, hD.ready, fun t v hv' => ?_, fun i x d hx hxd hi => by rw [putA_size]; exact hD.dsts i x d hx hxd hi, hp,
      fun p hp => hD.lds p (List.mem_cons_of_mem _ hp), fun p p' hp hpd hp' hpd' => hD.inj p p' (List.mem_cons_of_mem _ hp) hpd (List.mem_cons_of_mem _ hp') hpd', fun p hp hpd => hD.own p (List.mem_cons_of_mem _ hp) hpd⟩
    · rcases List.mem_cons.1 (hD.todo i hi hn) with h | h
      · subst h; exact absurd hq hn
      · exact h
    · by_cases hiq : i = q
      · subst hiq
        rw [ho] at hx
        cases hx
        exact fun h => hdeps e he hb (List.mem_cons_of_mem _ h)
      · exact fun h => hD.closed i (fun h => (List.mem_cons.1 h).elim hiq hi) x hx e he hb (List.mem_cons_of_mem _ h)
    · rw [get_putA hd]
      by_cases ht : o.dst = some t
      · rw [if_pos ht]
        rw [hu t ht] at hv'
        cases hv'
        exact .inr ⟨u', rfl, hv⟩
      · rw [if_neg ht]
        rcases hD.tr t v hv' with ⟨p, hp, hpd, hpt⟩ | ⟨v', a, b⟩
        · rcases List.mem_cons.1 hp with h | h
          · subst h
            obtain ⟨x, hx, hxt⟩ := dstOf_some hpt
            rw [ho] at hx
            cases hx
            exact absurd hxt ht
          · exact .inl ⟨p, h, hpd, hpt⟩
        · exact .inr ⟨v', a, b.mono hle⟩
  have hL' : LoadP P H tm ops done π := fun p hp => hL p (List.mem_cons_of_mem _ hp)
  have hprom : ∀ p, p ∈ π → p ∈ done → ∀ o', ops[p]? = some o' → Prom P φ H tm ops κ lo hi p o' := fun p hp => hD.prom p (List.mem_cons_of_mem _ hp)
  rcases hD.prom q (by simp) hq o ho with ⟨hw, hu⟩ | ⟨hw, hrd, u, hu, hnl⟩ | ⟨hw, hal, e, l, mk, hz, hk, hkb, hlo, hhi, hu⟩
  · exact ⟨φ, _, w, step_not ho (hgd _ hw), φ.le_refl, hH, rfl, fun _ _ h => h, rest φ undef undef φ.le_refl hu (.flat _ rfl) hprom, hL', putA_size _ _ _⟩
  · have hr : ∃ u, rd P H tm o = some u ∧ ∀ d, o.dst = some d → tm.get (bits d) = some u := by
      cases hl : isLd o.op with
      | false => exact ⟨u, hnl hl, hu⟩
      | true => exact hL q (by simp) hq o ho hl hw
    obtain ⟨u, hr, hu⟩ := hr
    obtain ⟨u', hv, hrun⟩ := rd_sound hH hop hr
    exact ⟨φ, _, w, step_value ho (hgd _ hw) hrun, φ.le_refl, hH, rfl, fun _ _ h => h, rest φ u u' φ.le_refl hu hv hprom, hL', putA_size _ _ _⟩
  · obtain ⟨l', mk', hLR, hrun, hmk⟩ := al_run hop hz
    have hob := newOB_R (P := P) (W := W) (w := w) hLR e e #[] (es := (szOf P e).getD 0) (fun y hy => by rw [hy]; rfl) hH.below
    rw [Array.append_empty] at hob
    have hb := hH.bind hk hkb (.cells l'.toArray e) hob
    refine ⟨_, _, _, step_value ho (hgd _ hw) hrun, set_le hk _, hb, by simp, fun j hj h => ?_, rest _ (mk (κ q)) _ (set_le hk _) hu (hmk _ _ _ (set_get hk _)) ?_, hL', putA_size _ _ _⟩
    · rw [List.getElem?_set_ne (by omega)]; exact h
    · intro p hp hpd o' ho'
      rcases hprom p hp hpd o' ho' with h | h | ⟨hw', hal', e', l', mk2, hz'', hk', hkb', hlo', hhi', hu'⟩
      · exact .inl h
      · exact .inr (.inl h)
      · refine .inr (.inr ⟨hw', hal', e', l', mk2, hz'', ?_, hkb', hlo', hhi', hu'⟩)
        rw [List.getElem?_set_ne]
        · exact hk'
        · intro heq
          have := hD.inj q p (by simp) hq (List.mem_cons_of_mem _ hp) hpd o o' ho ho' hal hal' hw hw' heq
          subst this
          exact hnq hp

theorem run_pend : ∀ (π : List Nat) (φ : Phi) (tmps : Array Value) (w : World), HR P W φ (hp H) w → DrawC P φ H tm tmps ops done lds pl π κ lo hi → LoadP P H tm ops done π →
    ∃ φ' tmps' w' π', Steps P (lone (mkF fn tmps (.inRegion ops π :: k)) cs w) (lone (mkF fn tmps' (.inRegion ops π' :: k)) cs w') ∧
      φ.le φ' ∧ HR P W φ' (hp H) w' ∧ φ'.length = φ.length ∧ (∀ j, j < lo → φ[j]? = some none → φ'[j]? = some none) ∧
      DrawC P φ' H tm tmps' ops done lds pl π' κ lo hi ∧ LoadP P H tm ops done π' ∧ tmps'.size = tmps.size ∧ (∀ q l, π' = q :: l → q ∉ done)
  | [], φ, tmps, w, hH, hD, hL => ⟨φ, tmps, w, [], .refl _ _, φ.le_refl, hH, rfl, fun _ _ h => h, hD, hL, rfl, fun q l h => by cases h⟩
  | q :: π, φ, tmps, w, hH, hD, hL => by
    by_cases hq : q ∈ done
    · obtain ⟨φ1, tmps1, w1, hs, hle, hH1, hl1, hk1, hD1, hL1, hz1⟩ := exec_pend (fn := fn) (k := k) (cs := cs) hH hD hL hq
      obtain ⟨φ2, tmps2, w2, π2, hs2, hle2, hH2, hl2, hk2, hD2, hL2, hz2, hn2⟩ := run_pend π φ1 tmps1 w1 hH1 hD1 hL1
      exact ⟨φ2, tmps2, w2, π2, .head hs hs2, Phi.le_trans hle hle2, hH2, hl2.trans hl1, fun j hj h => hk2 j hj (hk1 j hj h), hD2, hL2, hz2.trans hz1, hn2⟩
    · exact ⟨φ, tmps, w, q :: π, .refl _ _, φ.le_refl, hH, rfl, fun _ _ h => h, hD, hL, rfl, fun q' l h => by cases h; exact hq⟩
end
end
end Go.Ev
