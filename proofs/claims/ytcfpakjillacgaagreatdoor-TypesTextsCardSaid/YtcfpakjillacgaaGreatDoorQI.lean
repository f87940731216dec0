/- All of the evaluator's operations that are no readers: what they come to, in the model. -/
import Derived.Test.YtcfpakjillacgaaGreatDoorQH
namespace Go.Ev
noncomputable section
open Go.RowKit (Below)
variable {P : Program} {W w : World} {φ : Phi} {H : T OB} {tm : T Value} {ρ : Operand → Value} {g : Nat → Option OB}

section ops
variable {o : Oper} {v : Value} {H' : T OB} {nx nx' : Nat}

theorem ef_makeMap (hH : HR P W φ (hp H) w) (hnx : φ.length = nx) {t : TypeId} (ho : o.op = .makeMap t none)
    (h : (setK (bits nx) H (some (.map [] 0)) fun H => natF (Nat.succ nx) fun n => Eff.val (.map (some nx)) H n) = .val v H' nx') : EfOk P W φ H w ((execOp ρ o).run P w) v H' nx' := by
  rw [setK_set, natF_eq] at h
  cases h
  subst hnx
  refine ⟨fresh φ w.heap.size 0 0, .map (some w.heap.size), w.alloc (.map #[] 0), .value (.map (some w.heap.size)), ?_, .inl rfl, .map (fresh_get φ _ _ _), fresh_le _ _ _ _, ?_, fresh_len _ _ _ _, ?_⟩
  · simp [execOp, ho, Instr.makeMap]
  · rw [hp_set]; exact hH.fresh _ ⟨hH.below.size, #[], Go.heap_alloc_new w _, .nil⟩
  · rw [hp_set]; exact fresh_keep _ _ _ _ _ _

theorem newIter_sound (hH : HR P W φ (hp H) w) (hnx : φ.length = nx) {m m' : Option Nat} {c : Nat} (hm : MapN φ m m') {r : Result Next}
    (hr : r = .ok (.value (.pointer (some ⟨w.heap.size, 0, none⟩))) (w.alloc (.mapIter m' c #[] c))) (h : newIter H nx m c = .val v H' nx') : EfOk P W φ H w r v H' nx' := by
  unfold newIter at h
  rw [setK_set, natF_eq] at h
  cases h
  subst hnx
  refine ⟨fresh φ w.heap.size 0 0, _, _, _, hr, .inl rfl, .ptr (fresh_get φ _ _ _), fresh_le _ _ _ _, ?_, fresh_len _ _ _ _, ?_⟩
  · rw [hp_set]; exact hH.fresh _ ⟨hH.below.size, m', #[], Go.heap_alloc_new w _, rfl, hm⟩
  · rw [hp_set]; exact fresh_keep _ _ _ _ _ _

theorem mapK_eff {x : Option OB} {k : List MapEntry → Nat → Eff} {v : Value} {H' : T OB} {nx' : Nat} (h : mapK x k .bad = .val v H' nx') : ∃ es c, x = some (.map es c) ∧ k es c = .val v H' nx' := by
  unfold mapK at h
  split at h
  · exact ⟨_, _, rfl, h⟩
  · cases h
theorem iterK_eff {x : Option OB} {k : Option Nat → Nat → List Nat → Nat → Eff} {v : Value} {H' : T OB} {nx' : Nat} (h : iterK x k .bad = .val v H' nx') :
    ∃ m s l c, x = some (.iter m s l c) ∧ k m s l c = .val v H' nx' := by
  unfold iterK at h
  split at h
  · exact ⟨_, _, _, _, rfl, h⟩
  · cases h
theorem mapTK_eff {t : TypeId} {k : TypeDesc → TypeId → Eff} {v : Value} {H' : T OB} {nx' : Nat} (h : mapTK P t k .bad = .val v H' nx') :
    ∃ kt et d, P.underlying t = some (.map kt et) ∧ P.underlying kt = some d ∧ keyKind d = true ∧ k d et = .val v H' nx' := by
  unfold mapTK at h
  split at h
  · rename_i kt et hu
    obtain ⟨d, h1, h2⟩ := optK_eff h
    obtain ⟨h3, h4⟩ := bif_eff h2
    exact ⟨kt, et, d, hu, h1, h3, h4⟩
  · cases h

theorem ef_range (hH : HR P W φ (hp H) w) (hnx : φ.length = nx) {t : TypeId} {x : Operand} (ho : o.op = .range t x) (hE : ∀ v, eva P tm x = some v → VR φ v (ρ x))
    (h : efRange P H nx t (eva P tm x) = .val v H' nx') : EfOk P W φ H w ((execOp ρ o).run P w) v H' nx' := by
  unfold efRange at h
  obtain ⟨ht, h⟩ := bif_eff h
  unfold isMapT at ht
  split at ht
  · rename_i kt et hu
    split at h
    · rename_i hx
      have hx' := (hE _ hx).eq_of_flat rfl
      refine newIter_sound (m' := none) hH hnx (show MapN φ none none from trivial) ?_ h
      simp [execOp, ho, hx', Instr.range, run_und hu]
    · rename_i b hx
      obtain ⟨e, hb, hx'⟩ := (hE _ hx).map_inv
      obtain ⟨es, c, hg, h⟩ := mapK_eff h
      obtain ⟨_, es', hr, hml⟩ := hH.obj b _ e (show hp H b = some (.map es c) from hg) hb
      refine newIter_sound (m' := some e.r) hH hnx (show MapN φ (some b) (some e.r) from ⟨e, hb, rfl⟩) ?_ h
      simp [execOp, ho, hx', Instr.range, run_und hu, MapKept.run_getObj_map hr]
    · cases h
  · cases ht

theorem run_setObj {w : World} {r : Nat} {o o' : Obj} (hr : w.heap[r]? = some o) (hn : ∀ c e f, o ≠ .cells c e f) : (setObj r o').run P w = .ok () { w with heap := w.heap.setIfInBounds r o' } := by
  unfold Go.setObj
  cases o with
  | cells c e f => exact absurd rfl (hn _ _ _)
  | _ => simp only [Sem.run, hr]
theorem run_getObj {w : World} {r : Nat} {o : Obj} (hr : w.heap[r]? = some o) (hn : ∀ c e f, o ≠ .cells c e f) : (getObj r).run P w = .ok o w := by
  unfold getObj
  cases o with
  | cells c e f => exact absurd rfl (hn _ _ _)
  | _ => simp only [Sem.run, hr]

/-- A block that is no row is written. -/
theorem HR.setObj (hH : HR P W φ g w) {b : Nat} {ob0 ob' : OB} {e : Ent} (hg : g b = some ob0) (hl : live ob0 = true) (hb : φ[b]? = some (some e)) (o' : Obj)
    (hob : OBR P W φ ob' e { w with heap := w.heap.setIfInBounds e.r o' }) : HR P W φ (upd g b (some ob')) { w with heap := w.heap.setIfInBounds e.r o' } := by
  have hab := OBR.above hl (hH.obj b ob0 e hg hb)
  refine hH.put hg hl hb ?_ (by simp) (fun r hr => Array.getElem?_setIfInBounds_ne (fun q => hr q.symm)) hob
  exact hH.below.trans ⟨rfl, rfl, rfl, by simp, fun k hk => Array.getElem?_setIfInBounds_ne (by omega)⟩
theorem heap_set {w : World} {r : Nat} {o o' : Obj} (hr : w.heap[r]? = some o) : ({ w with heap := w.heap.setIfInBounds r o' } : World).heap[r]? = some o' :=
  Array.getElem?_setIfInBounds_self_of_lt (Array.getElem?_eq_some_iff.1 hr).1

/-- What is not turned where nothing pends stays. -/
theorem keep_upd {b : Nat} {e : Ent} (hb : φ[b]? = some (some e)) (x : Option OB) : Keep φ φ g (upd g b x) := fun k hk => ⟨hk, upd_other g (fun q => by subst q; rw [hb] at hk; cases hk) x⟩

theorem MLR.length {l l' : List MapEntry} (h : MLR φ l l') : l'.length = l.length := by
  induction h with
  | nil => rfl
  | cons _ _ ih => simp [ih]
theorem MLR.append {a a' b b' : List MapEntry} (h : MLR φ a a') (h' : MLR φ b b') : MLR φ (a ++ b) (a' ++ b') := by
  induction h with
  | nil => exact h'
  | cons h _ ih => exact .cons h ih
theorem MLR.modify {k k' v v' : Value} (hk : VR φ k k') (hv : VR φ v v') {l l' : List MapEntry} (h : MLR φ l l') : ∀ i, MLR φ (l.modify i fun e => { e with key := k, val := v }) (l'.modify i fun e => { e with key := k', val := v' }) := by
  induction h with
  | nil => intro i; cases i <;> exact .nil
  | @cons e e' l l' he hl ih =>
    intro i
    cases i with
    | zero => exact .cons ⟨hk, hv, he.born⟩ hl
    | succ i => exact .cons he (ih i)
theorem findNow_key {d : TypeDesc} {k : Value} : ∀ (l : List MapEntry) (i j : Nat) (v : Value), Instr.findNow d k l i = some (some (j, v)) → ∃ n e, j = i + n ∧ l[n]? = some e ∧ Instr.sameNow d k e.key = some true
  | [], i, j, v, h => by cases h
  | e :: l, i, j, v, h => by
    unfold Instr.findNow at h
    cases hs : Instr.sameNow d k e.key with
    | none => rw [hs] at h; cases h
    | some b =>
      rw [hs] at h
      cases b with
      | true => cases h; exact ⟨0, e, rfl, rfl, hs⟩
      | false =>
        obtain ⟨n, e', h1, h2, h3⟩ := findNow_key l (i + 1) j v h
        exact ⟨n + 1, e', by omega, by simpa using h2, h3⟩
theorem bytes_beq {a b : ByteArray} (h : (a == b) = true) : (b == a) = true := by
  have : a = b := by
    cases a; cases b
    exact congrArg _ (eq_of_beq h)
  subst this
  exact h
theorem sameBits_of {d : TypeDesc} {k a : Value} (h : Instr.sameNow d k a = some true) (n : Nat) : Instr.sameBits (n + 1) a k = true := by
  unfold Instr.sameNow at h
  split at h
  · split at h
    · rename_i hk
      subst hk
      injection h with h
      have := beq_iff_eq.1 h
      subst this
      simp [Instr.sameBits]
    · cases h
  · injection h with h
    simp only [Instr.sameBits]
    exact bytes_beq h
  · injection h with h
    have := beq_iff_eq.1 h
    subst this
    simp [Instr.sameBits]
  · cases h

theorem ef_mapUpdate (hH : HR P W φ (hp H) w) (hnx : φ.length = nx) {t : TypeId} {m k x : Operand} (ho : o.op = .mapUpdate t m k x) (hE : EvR P φ tm ρ [m, k, x])
    (h : efMapUpdate P H nx t (eva P tm m) (eva P tm k) (eva P tm x) = .val v H' nx') : EfOk P W φ H w ((execOp ρ o).run P w) v H' nx' := by
  unfold efMapUpdate at h
  obtain ⟨kt, et, d, hu, hd, hkk, h⟩ := mapTK_eff h
  obtain ⟨b, hm, h⟩ := optK_eff h
  obtain ⟨kv, hk, h⟩ := optK_eff h
  obtain ⟨xv, hx, h⟩ := optK_eff h
  obtain ⟨es, c, hg, h⟩ := mapK_eff h
  have hm' : eva P tm m = some (.map (some b)) := by
    unfold mapAt at hm
    split at hm
    · rename_i q; cases hm; exact q
    · cases hm
  obtain ⟨e, hb, hmr⟩ := (hE m (by simp) _ hm').map_inv
  have hkv := hE k (by simp) kv hk
  have hxv := hE x (by simp) xv hx
  have hgb : hp H b = some (.map es c) := hg
  obtain ⟨hab, es', hr, hml⟩ := hH.obj b _ e hgb hb
  have hnc : ∀ c' e' f, Obj.map es' c ≠ .cells c' e' f := fun _ _ _ => by simp
  cases hf : Instr.findNow d kv es 0 with
  | none => rw [hf] at h; cases h
  | some r =>
    rw [hf] at h
    obtain ⟨r', hf', hfr⟩ := findNow_VR hkv hml 0 r hf
    have hfk := run_findKey hd hf' w
    have fin : ∀ (nes : List MapEntry) (nes' : Array MapEntry) (nc : Nat), MLR φ nes nes'.toList → (execOp ρ o).run P w = .ok .skip { w with heap := w.heap.setIfInBounds e.r (.map nes' nc) } →
        EfOk P W φ H w ((execOp ρ o).run P w) undef (set H (bits b) (some (.map nes nc))) nx := fun nes nes' nc hn hrun =>
      ⟨φ, undef, _, .skip, hrun, .inr ⟨rfl, rfl⟩, .flat _ rfl, φ.le_refl, by rw [hp_set]; exact hH.setObj hgb rfl hb _ ⟨hab, nes', heap_set hr, hn⟩, hnx, by rw [hp_set]; exact keep_upd hb _⟩
    cases hfr with
    | @some i u u' hu' =>
      have h : (setK (bits b) H (some (.map (es.modify i fun e => { e with key := kv, val := xv }) c)) fun H => Eff.val undef H nx) = .val v H' nx' := h
      rw [setK_set] at h
      cases h
      refine fin _ (es'.modify i fun e => { e with key := ρ k, val := ρ x }) c (by rw [Array.toList_modify]; exact hml.modify hkv hxv i) ?_
      obtain ⟨n, en, hn1, hn2, hn3⟩ := findNow_key _ _ _ _ hf'
      rw [Nat.zero_add] at hn1
      subst hn1
      have hkey : (Instr.keyThatStays (((es'[i]?).map (·.key)).getD (ρ k)) (ρ k)).run P w = .ok (ρ k) w := by
        have h1 : es'[i]? = some en := by simpa using hn2
        rw [h1]
        simp only [Option.map_some, Option.getD_some, Instr.keyThatStays, sameBits_of hn3 9999, if_true]
        rfl
      simp only [execOp, ho, hmr, Instr.mapUpdate, Sem.run_bind, run_und hu, Result.andThen_ok, run_getObj hr hnc, run_checkKey hd hkk, hfk, hkey, run_setObj hr hnc]
      rfl
    | none =>
      have h : (natF (Nat.succ c) fun c' => setK (bits b) H (some (.map (es ++ [⟨kv, xv, c⟩]) c')) fun H => Eff.val undef H nx) = .val v H' nx' := h
      rw [natF_eq, setK_set] at h
      cases h
      refine fin _ (es'.push { key := ρ k, val := ρ x, born := c }) (c + 1) (by rw [Array.toList_push]; exact hml.append (.cons ⟨hkv, hxv, rfl⟩ .nil)) ?_
      simp only [execOp, ho, hmr, Instr.mapUpdate, Sem.run_bind, run_und hu, Result.andThen_ok, run_getObj hr hnc, run_checkKey hd hkk, hfk, run_setObj hr hnc]
      rfl

theorem MLR.filter {l l' : List MapEntry} (h : MLR φ l l') (p : Nat → Bool) : MLR φ (l.filter fun e => p e.born) (l'.filter fun e => p e.born) := by
  induction h with
  | nil => exact .nil
  | @cons e e' l l' he hl ih =>
    simp only [List.filter_cons, he.born]
    split
    · exact .cons he ih
    · exact ih
theorem MLR.all {l l' : List MapEntry} (h : MLR φ l l') (p : Nat → Bool) : (l'.all fun e => p e.born) = (l.all fun e => p e.born) := by
  induction h with
  | nil => rfl
  | cons he _ ih => simp only [List.all_cons, he.born, ih]

theorem ef_next (hH : HR P W φ (hp H) w) (hnx : φ.length = nx) {x : Operand} {isS : Bool} (ho : o.op = .next x isS) (hE : ∀ v, eva P tm x = some v → VR φ v (ρ x))
    (h : efNext H nx (eva P tm x) isS = .val v H' nx') : EfOk P W φ H w ((execOp ρ o).run P w) v H' nx' := by
  unfold efNext at h
  cases isS with
  | true => cases h
  | false =>
    have h : ptrK (eva P tm x) (fun r off => bif Nat.beq off 0 then iterK (H.get (bits r)) (fun m since seen last => match m with
      | none => Eff.val (.tuple #[.bool false]) H nx
      | some m => nextM H nx r m since last seen) .bad else .bad) .bad = .val v H' nx' := h
    obtain ⟨r, off, hx, h⟩ := ptrK_eff h
    obtain ⟨h0, h⟩ := bif_eff h
    have h0 := beq_eq h0
    subst h0
    obtain ⟨m, since, seen, last, hg, h⟩ := iterK_eff h
    obtain ⟨e, hb, _, hxr⟩ := (hE _ hx).ptr_inv
    have hgb : hp H r = some (.iter m since seen last) := hg
    obtain ⟨hab, m', seen', hr, hseen, hmn⟩ := hH.obj r _ e hgb hb
    have hnc : ∀ c' e' f, Obj.mapIter m' since seen' last ≠ .cells c' e' f := fun _ _ _ => by simp
    have over : (execOp ρ o).run P w = .ok (.value (.tuple #[.bool false])) w → EfOk P W φ H w ((execOp ρ o).run P w) (.tuple #[.bool false]) H nx := fun hrun =>
      ⟨φ, _, w, _, hrun, .inl rfl, .flat _ rfl, φ.le_refl, hH, hnx, Keep.refl _ _⟩
    cases m with
    | none =>
      cases m' with
      | some _ => exact hmn.elim
      | none =>
        have h : Eff.val (.tuple #[.bool false]) H nx = .val v H' nx' := h
        cases h
        refine over ?_
        simp only [execOp, ho, hxr, Instr.next, Sem.run_bind, run_getObj hr hnc, Result.andThen_ok]
        rfl
    | some m =>
      cases m' with
      | none => exact hmn.elim
      | some m' =>
        obtain ⟨em, hbm, rfl⟩ := hmn
        have h : nextM H nx r m since last seen = .val v H' nx' := h
        unfold nextM at h
        obtain ⟨es, c, hgm, h⟩ := mapK_eff h
        obtain ⟨_, es', hrm, hml⟩ := hH.obj m _ em (show hp H m = some (.map es c) from hgm) hbm
        have hncm : ∀ c' e' f, Obj.map es' c ≠ .cells c' e' f := fun _ _ _ => by simp
        cases hbad : !seen.isEmpty && !es.isEmpty && es.all (fun e => Nat.ble last e.born) with
        | true => rw [hbad] at h; cases h
        | false =>
          rw [hbad] at h
          have h : nextV1 H nx r m since c seen (es.filter fun e => !seen.contains e.born) = .val v H' nx' := h
          have hsn : ∀ b, seen'.contains b = seen.contains b := fun b => by rw [← hseen]; simp
          have h1 : seen'.isEmpty = seen.isEmpty := by rw [← hseen]; simp
          have h2 : es'.isEmpty = es.isEmpty := by
            have hl := hml.length
            have : es'.toList.isEmpty = es.isEmpty := by
              cases es with
              | nil => cases hq : es'.toList with
                | nil => rfl
                | cons a l => rw [hq] at hl; simp at hl
              | cons a l => cases hq : es'.toList with
                | nil => rw [hq] at hl; simp at hl
                | cons b m => rfl
            rw [← this]; simp
          have h3 : (es'.all fun e => decide (e.born ≥ last)) = es.all (fun e => Nat.ble last e.born) := by
            have := hml.all (fun b => decide (b ≥ last))
            rw [← Array.all_toList, this]
            congr 1
            funext e
            rw [Bool.eq_iff_iff]
            simp only [decide_eq_true_eq]
            exact ⟨fun q => Nat.ble_eq_true_of_le q, fun q => ble_le q⟩
          have hcond : (!seen'.isEmpty && !es'.isEmpty && es'.all (fun e => decide (e.born ≥ last))) = false := by rw [h1, h2, h3]; exact hbad
          have hcond' : ¬ ((!seen'.isEmpty && !es'.isEmpty && es'.all (fun e => decide (e.born ≥ last))) = true) := by rw [hcond]; decide
          have hleft := hml.filter (fun b => !seen.contains b)
          have hle : es'.filter (fun e => !seen'.contains e.born) = (es'.toList.filter fun e => !seen.contains e.born).toArray := by
            apply Array.ext'
            simp only [Array.toList_filter, hsn]
          generalize hL : (es'.toList.filter fun e => !seen.contains e.born) = L' at hleft hle
          generalize hLo : (es.filter fun e => !seen.contains e.born) = L at hleft h
          cases hleft with
          | nil =>
            have h : Eff.val (.tuple #[.bool false]) H nx = .val v H' nx' := h
            cases h
            refine over ?_
            simp only [execOp, ho, hxr, Instr.next, Sem.run_bind, run_getObj hr hnc, run_getObj hrm hncm, Result.andThen_ok]
            rw [if_neg hcond', hle]
            simp [Question.forced]
          | @cons e1 e1' l l' he1 hl =>
            cases l with
            | cons _ _ => cases h
            | nil =>
              cases hl
              obtain ⟨hlt, h⟩ := bif_eff (show (bif Nat.blt e1.born since then setK (bits r) H (some (.iter (some m) since (seen ++ [e1.born]) c)) (fun H => Eff.val (.tuple #[.bool true, e1.key, e1.val]) H nx) else .bad) = .val v H' nx' from h)
              rw [setK_set] at h
              cases h
              have hlt := blt_lt hlt
              have hb1 := he1.born
              have hrun : (execOp ρ o).run P w = .ok (.value (.tuple #[.bool true, e1'.key, e1'.val])) { w with heap := w.heap.setIfInBounds e.r (.mapIter (some em.r) since (seen'.push e1'.born) c) } := by
                have c1 : ¬ (since ≤ e1'.born) := by omega
                have c2 : e1'.born < since := by omega
                simp only [execOp, ho, hxr, Instr.next, Sem.run_bind, run_getObj hr hnc, run_getObj hrm hncm, Result.andThen_ok]
                rw [if_neg hcond', hle]
                simp [Question.forced, c1, c2, run_setObj hr hnc]
              refine ⟨φ, _, _, _, hrun, .inl rfl, (LR.cons (.flat (.bool true) rfl) (LR.cons he1.key (LR.cons he1.val LR.nil))).tuple, φ.le_refl, ?_, hnx, by rw [hp_set]; exact keep_upd hb _⟩
              rw [hp_set]
              exact hH.setObj hgb rfl hb _ ⟨hab, some em.r, seen'.push e1'.born, heap_set hr, by rw [Array.toList_push, hseen, hb1], em, hbm, rfl⟩

theorem MLR.find {l l' : List MapEntry} (h : MLR φ l l') (st : Nat) {e : MapEntry} (hf : l.find? (fun e => e.born == st) = some e) : ∃ e', l'.find? (fun e => e.born == st) = some e' ∧ MER φ e e' := by
  induction h with
  | nil => cases hf
  | @cons a a' l l' ha _ ih =>
    simp only [List.find?_cons, ha.born] at hf ⊢
    cases hb : a.born == st with
    | true => rw [hb] at hf; cases hf; exact ⟨a', rfl, ha⟩
    | false => rw [hb] at hf; exact ih hf

theorem ef_entry (hH : HR P W φ (hp H) w) (hnx : φ.length = nx) {x : Operand} (ho : o.op = .entry x) (hE : ∀ v, eva P tm x = some v → VR φ v (ρ x))
    (h : efEntry H nx (eva P tm x) = .val v H' nx') : EfOk P W φ H w ((execOp ρ o).run P w) v H' nx' := by
  unfold efEntry at h
  obtain ⟨r, off, hx, h⟩ := ptrK_eff h
  obtain ⟨h0, h⟩ := bif_eff h
  have h0 := beq_eq h0
  subst h0
  obtain ⟨m, since, seen, last, hg, h⟩ := iterK_eff h
  cases m with
  | none => cases h
  | some m =>
  rw [optK_some] at h
  obtain ⟨st, hst, h⟩ := optK_eff h
  obtain ⟨es, c, hgm, h⟩ := mapK_eff h
  obtain ⟨hc, h9⟩ := bif_eff h
  have hc := beq_eq hc
  subst hc
  obtain ⟨e, hb, _, hxr⟩ := (hE _ hx).ptr_inv
  obtain ⟨hab, m', seen', hr, hseen, hmn⟩ := hH.obj r _ e (show hp H r = some (.iter (some m) since seen c) from hg) hb
  cases m' with
  | none => exact hmn.elim
  | some m' =>
    obtain ⟨em, hbm, rfl⟩ := hmn
    obtain ⟨_, es', hrm, hml⟩ := hH.obj m _ em (show hp H m = some (.map es c) from hgm) hbm
    have hnc : ∀ c' e' f, Obj.mapIter (some em.r) since seen' c ≠ .cells c' e' f := fun _ _ _ => by simp
    have hncm : ∀ c' e' f, Obj.map es' c ≠ .cells c' e' f := fun _ _ _ => by simp
    have hback : seen'.back? = some st := by rw [← hst, ← hseen]; simp
    unfold entryV at h9
    cases hf : es.find? (fun e => e.born == st) with
    | none => simp only [hf] at h9; cases h9
    | some e1 =>
      simp only [hf] at h9
      cases h9
      obtain ⟨e1', hf', he1⟩ := hml.find st hf
      have hf2 : es'.find? (fun e => e.born == st) = some e1' := by simpa using hf'
      refine ⟨φ, _, w, _, ?_, .inl rfl, (LR.cons he1.key (LR.cons he1.val LR.nil)).tuple, φ.le_refl, hH, hnx, Keep.refl _ _⟩
      simp [execOp, ho, hxr, Instr.entry, run_getObj hr hnc, run_getObj hrm hncm, hback, hf2]

theorem ef_sound (hH : HR P W φ (hp H) w) (hnx : φ.length = nx) (hE : EvR P φ tm ρ o.op.operands.toList) (h : ef P H nx tm o = .val v H' nx') :
    EfOk P W φ H w ((execOp ρ o).run P w) v H' nx' := by
  unfold ef at h
  cases ho : o.op with
  | alloc e => simp only [ho] at h; exact ef_alloc hH hnx ho h
  | box e x => simp only [ho] at h; exact ef_box hH hnx ho (fun v hv => hE x (by rw [ho]; simp [Op.operands]) v hv) h
  | store t a x => simp only [ho] at h; exact ef_store hH hnx ho (by rw [ho] at hE; exact hE) h
  | buildSlice t len ps => simp only [ho] at h; exact ef_buildSlice hH hnx ho hE h
  | makeSlice t l c => simp only [ho] at h; exact ef_makeSlice hH hnx ho (by rw [ho] at hE; exact hE) h
  | makeMap t r =>
    simp only [ho] at h
    cases r with
    | none => exact ef_makeMap hH hnx ho h
    | some x => cases h
  | mapUpdate t m k x => simp only [ho] at h; exact ef_mapUpdate hH hnx ho (by rw [ho] at hE; exact hE) h
  | range t x => simp only [ho] at h; exact ef_range hH hnx ho (fun v hv => hE x (by rw [ho]; simp [Op.operands]) v hv) h
  | next x b => simp only [ho] at h; exact ef_next hH hnx ho (fun v hv => hE x (by rw [ho]; simp [Op.operands]) v hv) h
  | entry x => simp only [ho] at h; exact ef_entry hH hnx ho (fun v hv => hE x (by rw [ho]; simp [Op.operands]) v hv) h
  | defer c =>
    simp only [ho] at h
    unfold efDefer at h
    split at h <;> cases h
  | panic x =>
    simp only [ho] at h
    unfold panV at h
    split at h <;> cases h
  | call c =>
    simp only [ho] at h
    unfold efCall at h
    split at h
    · unfold efGo at h
      split at h
      · obtain ⟨l, _, h⟩ := optK_eff h
        obtain ⟨_, h⟩ := bif_eff h
        cases h
      · cases h
    · rename_i hc
      exact ef_append hH hnx hc ho (fun x hx v hv => hE x (by rw [ho]; simp [Op.operands, Call.operands, hc]; simpa using hx) v hv) h
    · cases h
    · cases h
    · cases h
  | _ => simp only [ho] at h; cases h

theorem optK_call {α : Type} {x : Option α} {k : α → Eff} {f : FuncId} {l : List Value} (h : optK x k .bad = .call f l) : ∃ a, x = some a ∧ k a = .call f l := by
  cases x with
  | none => cases h
  | some a => exact ⟨a, rfl, h⟩
theorem bif_call {b : Bool} {x : Eff} {f : FuncId} {l : List Value} (h : (bif b then x else .bad) = .call f l) : b = true ∧ x = .call f l := by
  cases b
  · cases h
  · exact ⟨rfl, h⟩

theorem callOk_inv {f : FuncId} (h : callOk P f = true) : ∃ fn, P.funcs[f]? = some fn ∧ fn.body.isSome = true ∧ (fn.name == "runtime.NumGoroutine") = false := by
  unfold callOk at h
  split at h
  · rename_i fn hfn
    simp only [Bool.and_eq_true, Bool.not_eq_true'] at h
    exact ⟨fn, hfn, h.1, h.2⟩
  · cases h
theorem run_callFunc {f : FuncId} (h : callOk P f = true) (args : Array Value) (w : World) : (callFunc f args).run P w = .ok (.enter f args) w := by
  obtain ⟨fn, h1, h2, h3⟩ := callOk_inv h
  have h2' : fn.body.isNone = false := by cases hb : fn.body <;> simp_all
  simp only [callFunc, Sem.run_bind, run_program, Result.andThen_ok, h1]
  simp [h3, h2']

/-- A function value, and what it is called with. -/
theorem efGo_inv {c : Call} {fv : Operand} (hE : EvR P φ tm ρ (fv :: c.args.toList)) {f : FuncId} {l : List Value} (h : efGo P (eva P tm fv) (evs P tm c.args.toList) = .call f l) :
    ∃ a' cap', ρ fv = .func (.func f) #[] ⟨cap'⟩ ∧ a' = c.args.toList.map ρ ∧ LR φ l (a' ++ cap') ∧ callOk P f = true := by
  unfold efGo at h
  split at h
  · rename_i g cap hf
    obtain ⟨vs, hvs, h⟩ := optK_call h
    obtain ⟨hok, h⟩ := bif_call h
    cases h
    obtain ⟨cap', hv', hcap⟩ := (hE fv (by simp) _ hf).func_inv
    have hargs := evs_LR _ _ (fun x hx => hE x (by simp [hx])) hvs
    exact ⟨_, cap', hv', rfl, hargs.append hcap, hok⟩
  · cases h

/-- A value, or nothing. -/
def PL (e : Eff) : Prop := match e with
  | .val _ _ _ => True
  | .bad => True
  | _ => False
theorem PL_optK {α : Type} {x : Option α} {k : α → Eff} (h : ∀ a, PL (k a)) : PL (optK x k .bad) := by
  cases x with
  | none => trivial
  | some a => exact h a
theorem PL_bif {b : Bool} {x y : Eff} (h : PL x) (h' : PL y) : PL (bif b then x else y) := by
  cases b
  · exact h'
  · exact h
theorem PL_apNew {H : T OB} {nx : Nat} {e : TypeId} {m : Nat} {l : List Value} : PL (apNew H nx e m l) := by rw [newK_mk]; trivial
theorem PL_sliceTK {t : TypeId} {k : TypeId → Nat → Eff} (h : ∀ e s, PL (k e s)) : PL (sliceTK P t k .bad) := by
  unfold sliceTK
  split
  · exact PL_optK fun s => h _ s
  · trivial
theorem PL_cellsK {x : Option OB} {k : Nat → T Value → TypeId → Eff} (h : ∀ n t e, PL (k n t e)) : PL (cellsK x k .bad) := by
  unfold cellsK
  split
  · exact h _ _ _
  · trivial
theorem PL_ptrK {x : Option Value} {k : Nat → Nat → Eff} (h : ∀ a b, PL (k a b)) : PL (ptrK x k .bad) := by
  unfold ptrK
  split
  · exact h _ _
  · trivial
theorem PL_mapK {x : Option OB} {k : List MapEntry → Nat → Eff} (h : ∀ a b, PL (k a b)) : PL (mapK x k .bad) := by
  unfold mapK
  split
  · exact h _ _
  · trivial
theorem PL_iterK {x : Option OB} {k : Option Nat → Nat → List Nat → Nat → Eff} (h : ∀ a b c d, PL (k a b c d)) : PL (iterK x k .bad) := by
  unfold iterK
  split
  · exact h _ _ _ _
  · trivial
theorem PL_mapTK {t : TypeId} {k : TypeDesc → TypeId → Eff} (h : ∀ a b, PL (k a b)) : PL (mapTK P t k .bad) := by
  unfold mapTK
  split
  · exact PL_optK fun d => PL_bif (h _ _) trivial
  · trivial
theorem PL_apGo {e : TypeId} {s sl sc xl : Nat} {base : Option Addr} {xs : List Value} : PL (apGo P H nx e s base sl sc xl xs) := by
  unfold apGo
  split
  · exact PL_bif (PL_bif trivial PL_apNew) trivial
  · unfold apAt
    refine PL_cellsK fun n tr el => PL_bif ?_ (PL_bif ?_ ?_)
    · unfold apU
      refine PL_bif (PL_optK fun old => ?_) trivial
      rw [setK_set]
      exact PL_apNew
    · unfold apIn
      refine PL_bif ?_ trivial
      rw [fromLK_fromL, setK_set, natF_eq]
      trivial
    · unfold apOut
      exact PL_bif (PL_optK fun old => PL_apNew) trivial
  · trivial
theorem PL_append {ts : List TypeId} {l : Option (List Value)} : PL (efAppS P H nx ts l) := by
  unfold efAppS
  split
  · exact PL_bif (PL_sliceTK fun e s => PL_bif PL_apGo trivial) trivial
  · unfold efAppend
    split
    · exact PL_bif trivial (PL_sliceTK fun e s => PL_optK fun p => PL_bif PL_apGo trivial)
    · trivial
theorem PL_updM {b : Nat} {es : List MapEntry} {c : Nat} {k v : Value} {r : Option (Option (Nat × Value))} : PL (updM H nx b es c k v r) := by
  unfold updM
  split
  · rw [setK_set]; trivial
  · rw [natF_eq, setK_set]; trivial
  · trivial
theorem PL_newIter {m : Option Nat} {c : Nat} : PL (newIter H nx m c) := by unfold newIter; rw [setK_set, natF_eq]; trivial
theorem PL_nextM {r m since last : Nat} {seen : List Nat} : PL (nextM H nx r m since last seen) := by
  unfold nextM
  refine PL_mapK fun es c => PL_bif trivial ?_
  unfold nextV1
  split
  · trivial
  · refine PL_bif ?_ trivial
    rw [setK_set]; trivial
  · trivial
theorem PL_entryV {es : List MapEntry} {st : Nat} : PL (entryV H nx es st) := by
  unfold entryV
  split <;> trivial

theorem efCall_inv {c : Call} {f : FuncId} {l : List Value} (h : efCall P H nx tm c = .call f l) : ∃ fv, c.callee = .value fv ∧ efGo P (eva P tm fv) (evs P tm c.args.toList) = .call f l := by
  unfold efCall at h
  split at h
  · rename_i fv hc; exact ⟨fv, hc, h⟩
  · have := PL_append (P := P) (H := H) (nx := nx) (ts := c.argTypes.toList) (l := evs P tm c.args.toList)
    rw [h] at this
    exact this.elim
  · cases h
  · cases h
  · cases h

theorem ef_plain (h1 : ∀ c, o.op ≠ .call c) (h2 : ∀ c, o.op ≠ .defer c) (h3 : ∀ x, o.op ≠ .panic x) : PL (ef P H nx tm o) := by
  unfold ef
  cases ho : o.op with
  | call c => exact absurd ho (h1 c)
  | defer c => exact absurd ho (h2 c)
  | panic x => exact absurd ho (h3 x)
  | alloc e =>
    refine PL_optK fun l => ?_
    rw [newK_eq]; trivial
  | box e x =>
    refine PL_optK fun l => ?_
    rw [newK_eq]; trivial
  | store t a x =>
    refine PL_ptrK fun b off => PL_optK fun v => PL_cellsK fun n tr e => PL_optK fun s => PL_bif ?_ trivial
    rw [fromLK_fromL, setK_set]; trivial
  | buildSlice t len ps =>
    refine PL_optK fun vs => PL_sliceTK fun e s => PL_optK fun z => PL_bif (PL_optK fun cs => ?_) trivial
    rw [newK_eq, natF_eq]; trivial
  | makeSlice t a c =>
    show PL (efMakeSlice P H nx t (eva P tm a) (eva P tm c))
    unfold efMakeSlice
    split
    · rename_i i j e _ _ _
      cases i with
      | negSucc i => exact trivial
      | ofNat i =>
      cases j with
      | negSucc j =>
        show PL (intNK ((i : Nat) : Int) (fun l => intNK (Int.negSucc j) (fun c => mkSl P H nx e l c) .bad) .bad)
        rw [intNK_ofNat]
        exact trivial
      | ofNat j =>
      show PL (intNK ((i : Nat) : Int) (fun l => intNK ((j : Nat) : Int) (fun c => mkSl P H nx e l c) .bad) .bad)
      rw [intNK_ofNat, intNK_ofNat]
      unfold mkSl
      split
      · refine PL_bif ?_ trivial
        split
        · rw [setK_set, natF_eq]; trivial
        · refine PL_bif ?_ trivial
          rw [newK_eq]; trivial
      · trivial
    · trivial
  | makeMap t r =>
    cases r with
    | none =>
      show PL (setK (bits nx) H (some (.map [] 0)) fun H => natF (Nat.succ nx) fun n => Eff.val (.map (some nx)) H n)
      rw [setK_set, natF_eq]; trivial
    | some x => trivial
  | mapUpdate t m k x => exact PL_mapTK fun d et => PL_optK fun b => PL_optK fun k => PL_optK fun v => PL_mapK fun es c => PL_updM
  | range t x =>
    refine PL_bif ?_ trivial
    split
    · exact PL_newIter
    · exact PL_mapK fun es c => PL_newIter
    · trivial
  | next x b =>
    refine PL_bif trivial (PL_ptrK fun r off => PL_bif (PL_iterK fun m s l c => ?_) trivial)
    cases m with
    | none => trivial
    | some m => exact PL_nextM
  | entry x => exact PL_ptrK fun r off => PL_bif (PL_iterK fun m s l c => PL_optK fun m => PL_optK fun st => PL_mapK fun es c => PL_bif PL_entryV trivial) trivial
  | _ => trivial

theorem ef_of {e : Eff} (h : ef P H nx tm o = e) (hp : ¬ PL e) : (∃ c, o.op = .call c ∧ efCall P H nx tm c = e) ∨ (∃ c, o.op = .defer c ∧ efDefer (efCall P H nx tm c) = e) ∨
    (∃ x, o.op = .panic x ∧ panV (eva P tm x) = e) := by
  by_cases h1 : ∃ c, o.op = .call c
  · obtain ⟨c, hc⟩ := h1
    refine .inl ⟨c, hc, ?_⟩
    rw [← h]; unfold ef; simp only [hc]
  · by_cases h2 : ∃ c, o.op = .defer c
    · obtain ⟨c, hc⟩ := h2
      refine .inr (.inl ⟨c, hc, ?_⟩)
      rw [← h]; unfold ef; simp only [hc]
    · by_cases h3 : ∃ x, o.op = .panic x
      · obtain ⟨x, hx⟩ := h3
        refine .inr (.inr ⟨x, hx, ?_⟩)
        rw [← h]; unfold ef; simp only [hx]
      · have := ef_plain (P := P) (H := H) (nx := nx) (tm := tm) (o := o) (fun c q => h1 ⟨c, q⟩) (fun c q => h2 ⟨c, q⟩) (fun c q => h3 ⟨c, q⟩)
        rw [h] at this
        exact absurd this hp

theorem efGo_call {f : Option Value} {l : Option (List Value)} : (∃ g a, efGo P f l = .call g a) ∨ efGo P f l = .bad := by
  unfold efGo
  split
  · cases l with
    | none => exact .inr rfl
    | some l =>
      rw [optK_some]
      rename_i g cap
      cases callOk P g with
      | true => exact .inl ⟨_, _, rfl⟩
      | false => exact .inr rfl
  · exact .inr rfl
/-- What the call of a function, or of a builtin, is not. -/
theorem efCall_not {c : Call} : (∀ f l, efCall P H nx tm c ≠ .dfr f l) ∧ (∀ v, efCall P H nx tm c ≠ .pan v) ∧ (efCall P H nx tm c = .rcv → c.callee = .builtin .recover) := by
  unfold efCall
  split
  · rcases efGo_call (P := P) (f := eva P tm _) (l := evs P tm c.args.toList) with ⟨g, a, h⟩ | h
    · rw [h]; exact ⟨fun _ _ q => (nomatch q), fun _ q => (nomatch q), fun q => (nomatch q)⟩
    · rw [h]; exact ⟨fun _ _ q => (nomatch q), fun _ q => (nomatch q), fun q => (nomatch q)⟩
  · have := PL_append (P := P) (H := H) (nx := nx) (ts := c.argTypes.toList) (l := evs P tm c.args.toList)
    refine ⟨fun f l q => ?_, fun v q => ?_, fun q => ?_⟩ <;> (rw [q] at this; exact this.elim)
  · rename_i hc; exact ⟨fun _ _ q => (nomatch q), fun _ q => (nomatch q), fun _ => hc⟩
  · exact ⟨fun _ _ q => (nomatch q), fun _ q => (nomatch q), fun q => (nomatch q)⟩
  · exact ⟨fun _ _ q => (nomatch q), fun _ q => (nomatch q), fun q => (nomatch q)⟩

theorem ef_call {f : FuncId} {l : List Value} (hE : EvR P φ tm ρ o.op.operands.toList) (h : ef P H nx tm o = .call f l) :
    ∃ l', LR φ l l' ∧ callOk P f = true ∧ ∀ w, (execOp ρ o).run P w = .ok (.enter f l'.toArray) w := by
  obtain ⟨c, ho, h⟩ : ∃ c, o.op = .call c ∧ efCall P H nx tm c = .call f l := by
    rcases ef_of h (fun q => q) with q | ⟨c, _, q⟩ | ⟨x, _, q⟩
    · exact q
    · unfold efDefer at q; split at q <;> cases q
    · unfold panV at q; split at q <;> cases q
  obtain ⟨fv, hc, h⟩ := efCall_inv h
  have hops : o.op.operands.toList = fv :: c.args.toList := by rw [ho]; simp [Op.operands, Call.operands, hc]
  rw [hops] at hE
  obtain ⟨a', cap', hv', rfl, hLR, hok⟩ := efGo_inv hE h
  refine ⟨_, hLR, hok, fun w => ?_⟩
  have e1 : (c.args.map ρ ++ ⟨cap'⟩ : Array Value) = (c.args.toList.map ρ ++ cap').toArray := Array.ext' (by simp)
  simp only [execOp, ho, resolve, hc, hv', Deferred.ofValue, Sem.run_bind, Sem.run_pure, Result.andThen_ok, invoke]
  simp [run_callFunc hok, e1]

/-- A deferred call, and the model's. -/
def DfR (P : Program) (φ : Phi) (d : FuncId × List Value) (d' : Deferred) : Prop := ∃ a' cap', d' = { target := .fn (.func d.1) ⟨cap'⟩, args := a' } ∧ LR φ d.2 (a'.toList ++ cap') ∧ callOk P d.1 = true
theorem DfR.mono {φ' : Phi} (hle : φ.le φ') {d : FuncId × List Value} {d' : Deferred} (h : DfR P φ d d') : DfR P φ' d d' := by
  obtain ⟨a, b, c, d, e⟩ := h
  exact ⟨a, b, c, d.mono hle, e⟩

theorem ef_dfr {f : FuncId} {l : List Value} (hE : EvR P φ tm ρ o.op.operands.toList) (h : ef P H nx tm o = .dfr f l) : ∃ d', DfR P φ (f, l) d' ∧ ∀ w, (execOp ρ o).run P w = .ok (.defer d') w := by
  rcases ef_of h (fun q => q) with ⟨c, _, q⟩ | ⟨c, ho, q⟩ | ⟨x, _, q⟩
  · exact absurd q (efCall_not.1 f l)
  · unfold efDefer at q
    split at q
    · rename_i g a hq
      cases q
      obtain ⟨fv, hc, hgo⟩ := efCall_inv hq
      have hops : o.op.operands.toList = fv :: c.args.toList := by rw [ho]; simp [Op.operands, Call.operands, hc]
      rw [hops] at hE
      obtain ⟨a', cap', hv', rfl, hLR, hok⟩ := efGo_inv hE hgo
      refine ⟨_, ⟨c.args.map ρ, cap', rfl, by simpa using hLR, hok⟩, fun w => ?_⟩
      simp [execOp, ho, resolve, hc, hv', Deferred.ofValue]
    · cases q
  · unfold panV at q; split at q <;> cases q

theorem ef_pan {v : Value} (hE : EvR P φ tm ρ o.op.operands.toList) (h : ef P H nx tm o = .pan v) : ∃ v', VR φ v v' ∧ ∀ w, (execOp ρ o).run P w = .halt (.panic v') w := by
  rcases ef_of h (fun q => q) with ⟨c, _, q⟩ | ⟨c, _, q⟩ | ⟨x, ho, q⟩
  · exact absurd q (efCall_not.2.1 v)
  · unfold efDefer at q; split at q <;> cases q
  · unfold panV at q
    split at q
    · rename_i t u hx
      cases q
      obtain ⟨u', h1, h2⟩ := (hE x (by rw [ho]; simp [Op.operands]) _ hx).iface_inv
      exact ⟨_, .iface h2, fun w => by simp [execOp, ho, h1, Instr.panic]⟩
    · cases q

theorem ef_rcv (h : ef P H nx tm o = .rcv) (w : World) : (execOp ρ o).run P w = .ok .recover w := by
  rcases ef_of h (fun q => q) with ⟨c, ho, q⟩ | ⟨c, _, q⟩ | ⟨x, _, q⟩
  · have hc := efCall_not.2.2 q
    simp [execOp, ho, resolve, hc, invoke, builtin]
  · unfold efDefer at q; split at q <;> cases q
  · unfold panV at q; split at q <;> cases q
end ops
end
end Go.Ev
