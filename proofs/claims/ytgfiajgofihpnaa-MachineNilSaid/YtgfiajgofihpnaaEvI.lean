/- All of the evaluator's operations that are no readers: what they come to, in the model. -/
import Derived.Test.YtgfiajgofihpnaaEvH
namespace Go.Ev
noncomputable section
open Go.RowKit (Below)
variable {P : Program} {W w : World} {φ : Phi} {H : T OB} {tm : T Value} {ρ : Operand → Value} {g : Nat → Option OB}

theorem HR.newDead (hH : HR P W φ g w) (o : Obj) : HR P W (φ ++ [some ⟨w.heap.size, 0, 0⟩]) (upd g φ.length (some .dead)) (w.alloc o) where
  below := hH.below.alloc hH.below.size _
  dom := fun k o h => by
    simp only [List.length_append, List.length_singleton]
    by_cases hk : k = φ.length
    · omega
    · rw [upd_other g hk] at h; have := hH.dom k o h; omega
  rng := fun k e h => by
    rw [World.size_alloc]
    rcases push_some h with h | ⟨_, h⟩
    · have := hH.rng k e h; omega
    · cases h; exact ⟨hH.below.size, by simp⟩
  inj := fun k k' n t el n' t' el' e e' h h' hg hg' hr => by
    have h1 : k ≠ φ.length := fun q => by subst q; rw [upd_same] at hg; cases hg
    have h2 : k' ≠ φ.length := fun q => by subst q; rw [upd_same] at hg'; cases hg'
    rw [upd_other g h1] at hg
    rw [upd_other g h2] at hg'
    rcases push_some h with h | ⟨q, _⟩
    · rcases push_some h' with h' | ⟨q, _⟩
      · exact hH.inj k k' n t el n' t' el' e e' h h' hg hg' hr
      · exact absurd q h2
    · exact absurd q h1
  blk := fun k n t el e hg h => by
    have h1 : k ≠ φ.length := fun q => by subst q; rw [upd_same] at hg; cases hg
    rw [upd_other g h1] at hg
    rcases push_some h with h | ⟨q, _⟩
    · obtain ⟨c, el', h2, h3, h4, h5⟩ := hH.blk k n t el e hg h
      exact ⟨c, el', by rw [Below.heap_alloc w _ _ (hH.rng k e h).2]; exact h2, h3, h4, fun i hi v hv => let ⟨v', a, b⟩ := h5 i hi v hv; ⟨v', a, b.mono (le_push φ _)⟩⟩
    · exact absurd q h1
  es := fun k n t el e hg h => by
    have h1 : k ≠ φ.length := fun q => by subst q; rw [upd_same] at hg; cases hg
    rw [upd_other g h1] at hg
    rcases push_some h with h | ⟨q, _⟩
    · exact hH.es k n t el e hg h
    · exact absurd q h1

section ops
variable {o : Oper} {v : Value} {H' : T OB} {nx nx' : Nat}

theorem ef_makeMap (hH : HR P W φ (hp H) w) (hnx : φ.length = nx) {t : TypeId} (ho : o.op = .makeMap t none)
    (h : (setK (bits nx) H (some .dead) fun H => natF (Nat.succ nx) fun n => Eff.val (.map (some nx)) H n) = .val v H' nx') : EfOk P W φ H w ((execOp ρ o).run P w) v H' nx' := by
  rw [setK_set, natF_eq] at h
  cases h
  subst hnx
  refine ⟨φ ++ [some ⟨w.heap.size, 0, 0⟩], .map (some w.heap.size), w.alloc (.map #[] 0), .value (.map (some w.heap.size)), ?_, .inl rfl, .map (get_push φ _), le_push φ _, ?_, by simp, ?_⟩
  · simp [execOp, ho, Instr.makeMap]
  · rw [hp_set]; exact hH.newDead _
  · rw [hp_set]
    refine fun k hk => ⟨?_, upd_other _ ?_ _⟩
    · rw [List.getElem?_append_left (List.getElem?_eq_some_iff.1 hk).1]; exact hk
    · have := (List.getElem?_eq_some_iff.1 hk).1; omega

theorem ef_sound (hH : HR P W φ (hp H) w) (hnx : φ.length = nx) (hE : EvR φ tm ρ o.op.operands.toList) (h : ef P H nx tm o = .val v H' nx') :
    EfOk P W φ H w ((execOp ρ o).run P w) v H' nx' := by
  unfold ef at h
  cases ho : o.op with
  | alloc e => simp only [ho] at h; exact ef_alloc hH hnx ho h
  | box e x => simp only [ho] at h; exact ef_box hH hnx ho (fun v hv => hE x (by rw [ho]; simp [Op.operands]) v hv) h
  | store t a x => simp only [ho] at h; exact ef_store hH hnx ho (by rw [ho] at hE; exact hE) h
  | buildSlice t len ps => simp only [ho] at h; exact ef_buildSlice hH hnx ho hE h
  | makeSlice t l c => simp only [ho] at h; exact ef_makeSlice hH hnx ho (by rw [ho] at hE; exact hE) h
  | makeMap t r =>
    simp only [ho] at h
    cases r with
    | none => exact ef_makeMap hH hnx ho h
    | some x => cases h
  | call c =>
    simp only [ho] at h
    unfold efCall at h
    split at h
    · unfold efGo at h
      split at h
      · obtain ⟨l, _, h⟩ := optK_eff h
        obtain ⟨_, h⟩ := bif_eff h
        cases h
      · cases h
    · rename_i hc
      exact ef_append hH hnx hc ho (fun x hx v hv => hE x (by rw [ho]; simp [Op.operands, Call.operands, hc]; simpa using hx) v hv) h
    · cases h
  | _ => simp only [ho] at h; cases h

theorem optK_call {α : Type} {x : Option α} {k : α → Eff} {f : FuncId} {l : List Value} (h : optK x k .bad = .call f l) : ∃ a, x = some a ∧ k a = .call f l := by
  cases x with
  | none => cases h
  | some a => exact ⟨a, rfl, h⟩
theorem bif_call {b : Bool} {x : Eff} {f : FuncId} {l : List Value} (h : (bif b then x else .bad) = .call f l) : b = true ∧ x = .call f l := by
  cases b
  · cases h
  · exact ⟨rfl, h⟩
theorem ptrK_call {x : Option Value} {k : Nat → Nat → Eff} {f : FuncId} {l : List Value} (h : ptrK x k .bad = .call f l) : ∃ b off, k b off = .call f l := by
  unfold ptrK at h
  split at h
  · exact ⟨_, _, h⟩
  · cases h
theorem cellsK_call {x : Option OB} {k : Nat → T Value → TypeId → Eff} {f : FuncId} {l : List Value} (h : cellsK x k .bad = .call f l) : ∃ n t e, k n t e = .call f l := by
  unfold cellsK at h
  split at h
  · exact ⟨_, _, _, h⟩
  · cases h
theorem sliceTK_call {t : TypeId} {k : TypeId → Nat → Eff} {f : FuncId} {l : List Value} (h : sliceTK P t k .bad = .call f l) : ∃ e s, k e s = .call f l := by
  unfold sliceTK at h
  split at h
  · obtain ⟨s, _, h2⟩ := optK_call h
    exact ⟨_, s, h2⟩
  · cases h

theorem callOk_inv {f : FuncId} (h : callOk P f = true) : ∃ fn, P.funcs[f]? = some fn ∧ fn.body.isSome = true ∧ (fn.name == "runtime.NumGoroutine") = false := by
  unfold callOk at h
  split at h
  · rename_i fn hfn
    simp only [Bool.and_eq_true, Bool.not_eq_true'] at h
    exact ⟨fn, hfn, h.1, h.2⟩
  · cases h

theorem ef_call {f : FuncId} {l : List Value} (hE : EvR φ tm ρ o.op.operands.toList) (h : ef P H nx tm o = .call f l) :
    ∃ l', LR φ l l' ∧ callOk P f = true ∧ ∀ w, (execOp ρ o).run P w = .ok (.enter f l'.toArray) w := by
  unfold ef at h
  cases ho : o.op with
  | call c =>
    simp only [ho] at h
    unfold efCall at h
    split at h
    · rename_i fv hc
      unfold efGo at h
      split at h
      · rename_i g cap hf
        obtain ⟨vs, hvs, h⟩ := optK_call h
        obtain ⟨hok, h⟩ := bif_call h
        cases h
        have hops : o.op.operands.toList = fv :: c.args.toList := by rw [ho]; simp [Op.operands, Call.operands, hc]
        rw [hops] at hE
        obtain ⟨cap', hv', hcap⟩ := (hE fv (by simp) _ hf).func_inv
        have hargs := evs_LR _ _ (fun x hx => hE x (by simp [hx])) hvs
        refine ⟨c.args.toList.map ρ ++ cap', hargs.append hcap, hok, fun w => ?_⟩
        obtain ⟨fn, h1, h2, h3⟩ := callOk_inv hok
        have h2' : fn.body.isNone = false := by cases hb : fn.body <;> simp_all
        have e1 : (c.args.map ρ ++ ⟨cap'⟩ : Array Value) = (c.args.toList.map ρ ++ cap').toArray := Array.ext' (by simp)
        simp only [execOp, ho, resolve, hc, hv', Deferred.ofValue, Sem.run_bind, Sem.run_pure, Result.andThen_ok, invoke, callFunc, run_program, h1]
        simp [h3, h2', e1]
      · cases h
    · unfold efAppend at h
      split at h
      · rename_i base sl sc xb xl xc t u _ _
        cases hb : !Nat.beq t u with
        | true => rw [hb] at h; cases h
        | false =>
          rw [hb] at h
          obtain ⟨e, s, h⟩ := sliceTK_call h
          obtain ⟨_, h⟩ := bif_call h
          obtain ⟨xs, _, h⟩ := optK_call h
          unfold apGo at h
          split at h
          · obtain ⟨_, h⟩ := bif_call h
            cases hx : Nat.beq xl 0 with
            | true => rw [hx] at h; cases h
            | false => rw [hx] at h; have h : apNew H nx e xl xs = _ := h; rw [newK_mk] at h; cases h
          · unfold apAt at h
            obtain ⟨n, tr, el, h⟩ := cellsK_call h
            cases h1 : Nat.beq sc unk with
            | true =>
              rw [h1] at h
              have h : apU P H nx e s _ _ sl xl n tr xs = .call f l := h
              unfold apU at h
              obtain ⟨_, h⟩ := bif_call h
              obtain ⟨_, _, h⟩ := optK_call h
              rw [setK_set, newK_mk] at h
              cases h
            | false =>
              rw [h1] at h
              cases h2 : Nat.ble (sl + xl) sc with
              | true =>
                rw [h2] at h
                have h : apIn H nx s _ _ sl sc xl n tr el xs = .call f l := h
                unfold apIn at h
                obtain ⟨_, h⟩ := bif_call h
                rw [fromLK_fromL, setK_set, natF_eq] at h
                cases h
              | false =>
                rw [h2] at h
                have h : apOut H nx e s _ sl xl n tr xs = .call f l := h
                unfold apOut at h
                obtain ⟨_, h⟩ := bif_call h
                obtain ⟨_, _, h⟩ := optK_call h
                rw [newK_mk] at h
                cases h
          · cases h
      · cases h
    · cases h
  | alloc e =>
    simp only [ho] at h
    unfold efAlloc at h
    obtain ⟨_, _, h⟩ := optK_call h
    rw [newK_eq] at h; cases h
  | box e x =>
    simp only [ho] at h
    unfold efBox at h
    obtain ⟨_, _, h⟩ := optK_call h
    rw [newK_eq] at h; cases h
  | store t a x =>
    simp only [ho] at h
    unfold efStore at h
    obtain ⟨_, _, h⟩ := ptrK_call h
    obtain ⟨_, _, h⟩ := optK_call h
    obtain ⟨_, _, _, h⟩ := cellsK_call h
    obtain ⟨_, _, h⟩ := optK_call h
    obtain ⟨_, h⟩ := bif_call h
    rw [fromLK_fromL, setK_set] at h; cases h
  | buildSlice t len ps =>
    simp only [ho] at h
    unfold efBuildSlice at h
    obtain ⟨_, _, h⟩ := optK_call h
    obtain ⟨_, _, h⟩ := sliceTK_call h
    obtain ⟨_, _, h⟩ := optK_call h
    obtain ⟨_, h⟩ := bif_call h
    obtain ⟨_, _, h⟩ := optK_call h
    rw [newK_eq, natF_eq] at h; cases h
  | makeSlice t a c =>
    simp only [ho] at h
    unfold efMakeSlice at h
    split at h
    · split at h
      · obtain ⟨_, h⟩ := bif_call h
        rw [setK_set, natF_eq] at h; cases h
      · cases h
    · cases h
  | makeMap t r =>
    simp only [ho] at h
    cases r with
    | none => rw [setK_set, natF_eq] at h; cases h
    | some x => cases h
  | _ => simp only [ho] at h; cases h
end ops
end
end Go.Ev
