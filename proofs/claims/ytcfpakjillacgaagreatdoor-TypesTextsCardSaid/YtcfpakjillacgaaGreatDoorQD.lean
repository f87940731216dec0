/- The evaluator's operations that leave memory as it is do what the model's do. -/
import Derived.Test.YtcfpakjillacgaaGreatDoorQC
namespace Go.Ev
noncomputable section
variable {P : Program} {W w : World} {φ : Phi} {H : T OB} {tm : T Value} {ρ : Operand → Value}

theorem pureRun_run {α : Type} (P : Program) : ∀ (s : Sem α) (a : α), pureRun P s = some a → ∀ w, s.run P w = .ok a w := by
  intro s
  induction s with
  | pure a => intro b h w; cases h; rfl
  | program k ih => intro b h w; exact ih P b h w
  | mark m k ih => intro b h w; exact ih b h w
  | _ => intro b h; cases h

/-- Each operand's value stands to the model's. -/
def EvR (P : Program) (φ : Phi) (tm : T Value) (ρ : Operand → Value) (l : List Operand) : Prop := ∀ x ∈ l, ∀ v, eva P tm x = some v → VR φ v (ρ x)

theorem nextV_inv {r : Option Next} {v : Value} (h : nextV r = some v) : r = some (.value v) ∧ flat v = true := by
  unfold nextV at h
  split at h
  · rw [valF_eq] at h
    obtain ⟨h1, h2⟩ := bif_inv h
    cases h2
    exact ⟨rfl, h1⟩
  · cases h

theorem fV_inv {s : Sem Value} {v : Value} (h : fV P s = some v) : flat v = true ∧ ∀ w, s.run P w = .ok v w := by
  unfold fV at h
  obtain ⟨h3, h4⟩ := nextV_inv h
  refine ⟨h4, fun w => ?_⟩
  have h5 := pureRun_run P _ _ h3 w
  unfold vS at h5
  rw [Sem.run_bind] at h5
  cases hr : s.run P w with
  | ok u w' => rw [hr] at h5; injection h5 with h6 h7; injection h6 with h6; rw [h6, h7]
  | _ => rw [hr] at h5; cases h5

theorem blt_lt {a b : Nat} (h : Nat.blt a b = true) : a < b := Nat.le_of_ble_eq_true h
theorem ble_le {a b : Nat} (h : Nat.ble a b = true) : a ≤ b := Nat.le_of_ble_eq_true h
theorem beq_eq {a b : Nat} (h : Nat.beq a b = true) : a = b := Nat.eq_of_beq_eq_true h

/-! types -/
theorem run_size {t : TypeId} {s : Nat} (h : szOf P t = some s) (w : World) : (sizeOf t).run P w = .ok s w := by
  unfold szOf at h
  split at h
  · rename_i i hi
    cases h
    simp [sizeOf, typeInfo, hi]
  · cases h
theorem run_und {t : TypeId} {d : TypeDesc} (h : P.underlying t = some d) (w : World) : (underlying t).run P w = .ok d w := run_underlying h w
theorem run_isAgg {t : TypeId} {b : Bool} (h : aggQ P t = some b) (w : World) : (isAgg t).run P w = .ok b w := by
  unfold aggQ at h
  unfold isAgg
  split at h
  · rename_i fs hd; cases h; simp [run_und hd]
  · rename_i n e hd; cases h; simp [run_und hd]
  · rename_i d hn1 hn2 hd
    cases h
    rw [Sem.run_bind, run_und hd, Result.andThen_ok]
    split
    · rename_i fs; exact absurd rfl (hn1 fs)
    · rename_i n e; exact absurd rfl (hn2 n e)
    · rfl
  · cases h
/-! loads -/
/-- Cells of a block of ours, and the model's row. -/
theorem row_LR {c : Array Value} {n : Nat} {t : T Value} (hc : RowR φ c n t)
    {s off : Nat} {l : List Value} (hl : toL t s off = some l) (hn : off + s ≤ n) (hsz : n ≤ c.size) : LR φ l ((c.toList.drop off).take s) ∧ l.length = s := by
  obtain ⟨h1, h2⟩ := toL_some t s off l hl
  have hlen : ((c.toList.drop off).take s).length = s := by simp; omega
  refine ⟨⟨by rw [h1, hlen], fun i v v' hv hv' => ?_⟩, h1⟩
  have hi : i < s := by have := (List.getElem?_eq_some_iff.1 hv).1; omega
  have h3 := h2 i hi
  rw [hv] at h3
  obtain ⟨u, h5, h6⟩ := hc (off + i) (by omega) v h3
  rw [List.getElem?_take, if_pos hi, List.getElem?_drop, Array.getElem?_toList, h5] at hv'
  cases hv'
  exact h6

/-- The model reads the cells of a row. -/
theorem run_row {c : Array Value} {r off s : Nat} {el : TypeId} {fz : Nat × Nat} {w : World} (hr : w.heap[r]? = some (.cells c el fz)) (hs : off + s ≤ c.size) :
    (loadCells ⟨r, off, none⟩ s).run P w = .ok ((c.toList.drop off).take s).toArray w := by
  have hlen : ((c.toList.drop off).take s).length = s := by simp; omega
  have := run_loadCells_list (P := P) w ⟨r, off, none⟩ ((c.toList.drop off).take s) (fun j v hv => by
    rw [add_none, cell_of_row w r (off + j) c el fz hr]
    rw [List.getElem?_take] at hv
    split at hv
    · rw [List.getElem?_drop] at hv; simpa using hv
    · cases hv)
  rwa [hlen] at this

theorem loadO_sound (hH : HR P W φ (hp H) w) {t : TypeId} {b off : Nat} {v : Value} {e : Ent} (hb : φ[b]? = some (some e)) (h : loadO P H t b off = some v) :
    ∃ v', VR φ v v' ∧ (loadVar t ⟨e.r, off, none⟩).run P w = .ok v' w := by
  unfold loadO at h
  obtain ⟨n, tr, h1, h2⟩ := rowK_inv h
  obtain ⟨c, el', fz, hr, hn, hc⟩ := hH.row h1 hb
  unfold loadB at h2
  obtain ⟨a, ha, h3⟩ := optK_inv h2
  unfold loadVar
  rw [Sem.run_bind, run_isAgg ha, Result.andThen_ok]
  cases a with
  | true =>
    have h3' : loadA P n tr t off = some v := h3
    unfold loadA at h3'
    obtain ⟨s, hs, h4⟩ := optK_inv h3'
    obtain ⟨hle, h5⟩ := bif_inv h4
    obtain ⟨l, hl, h6⟩ := optK_inv h5
    cases h6
    have hle' : off + s ≤ n := Nat.le_of_ble_eq_true hle
    obtain ⟨h7, h8⟩ := row_LR hc hl hle' (by omega)
    refine ⟨_, h7.agg, ?_⟩
    simp only [if_true, Sem.run_bind, run_size hs, Result.andThen_ok, run_row hr (show off + s ≤ c.size by omega)]
    rfl
  | false =>
    have h3' : load1 n tr off = some v := h3
    unfold load1 at h3'
    obtain ⟨hlt, h4⟩ := bif_inv h3'
    obtain ⟨v', h5, h6⟩ := hc off (blt_lt hlt) v h4
    refine ⟨v', h6, ?_⟩
    simp only [Bool.false_eq_true, if_false, run_load, cell_of_row w e.r off c el' fz hr, h5]

/-! the readers -/
theorem eva_lit {x : Operand} {v : Value} (h : eva P tm x = some v) : eva P tm x = some v := h

section ops
variable {o : Oper}
theorem rdLoad_sound (hH : HR P W φ (hp H) w) {t : TypeId} {xv : Option Value} {y : Value} (hE : ∀ v, xv = some v → VR φ v y) {v : Value} (h : rdLoad P H t xv = some v) :
    ∃ v' a, y = .pointer (some a) ∧ VR φ v v' ∧ (loadVar t a).run P w = .ok v' w := by
  unfold rdLoad at h
  split at h
  · obtain ⟨e, h3, _, h4⟩ := (hE _ rfl).ptr_inv
    obtain ⟨v', h5, h6⟩ := loadO_sound hH h3 h
    exact ⟨v', _, h4, h5, h6⟩
  · obtain ⟨f, u, rfl, h⟩ := epK_inv h
    obtain ⟨k, o, e, c, h1, h2, h3, h4, h5⟩ := (hE _ rfl).ep_inv
    unfold ldV at h
    obtain ⟨a, ha, h⟩ := optK_inv h
    obtain ⟨s, hs, h⟩ := optK_inv h
    obtain ⟨hq, h⟩ := bif_inv h
    cases h
    simp only [Bool.and_eq_true] at hq
    have hl := beq_eq hq.2
    obtain ⟨el, fz, hr⟩ := hH.fzr k e c h1 h2
    have hag := hq.1
    cases a with
    | true =>
      have hag : isAggV v = true := hag
      cases v with
      | agg cs =>
        have hl : cs.toList.length = s := hl
        have h3' : o + s ≤ c.size := by
          have h3 : o + cs.toList.length ≤ c.size := h3
          omega
        refine ⟨.agg ⟨(c.toList.drop o).take s⟩, _, h5, ?_, ?_⟩
        · have : VR φ (.agg ⟨cs.toList⟩) (.agg ⟨(c.toList.drop o).take s⟩) := LR.agg ⟨by simp only [List.length_take, List.length_drop, Array.length_toList]; simp only [Array.length_toList] at hl; omega, fun j a b ha' hb' => by
            rw [List.getElem?_take] at hb'
            split at hb'
            · rw [List.getElem?_drop, Array.getElem?_toList] at hb'
              exact h4 j a b ha' hb'
            · cases hb'⟩
          exact this
        · unfold loadVar
          rw [Sem.run_bind, run_isAgg ha, Result.andThen_ok]
          simp only [if_true, Sem.run_bind, run_size hs, Result.andThen_ok, run_row hr h3']
          rfl
      | _ => cases hag
    | false =>
      have hag : (!isAggV v) = true := hag
      have hcell : v.cells.toList = [v] := by
        cases v with
        | agg cs => cases hag
        | _ => rfl
      rw [hcell] at h3 h4
      have hlt : o < c.size := by
        have h3 : o + 1 ≤ c.size := h3
        omega
      refine ⟨c[o], _, h5, h4 0 v c[o] rfl (by simp [hlt]), ?_⟩
      unfold loadVar
      rw [Sem.run_bind, run_isAgg ha, Result.andThen_ok]
      simp only [Bool.false_eq_true, if_false, run_load, cell_of_row w e.r o c el fz hr, Array.getElem?_eq_getElem hlt]
  · cases h

theorem rd_load (hH : HR P W φ (hp H) w) {t : TypeId} {x : Operand} (ho : o.op = .load t x) (hE : ∀ v, eva P tm x = some v → VR φ v (ρ x)) {v : Value}
    (h : rdLoad P H t (eva P tm x) = some v) : ∃ v', VR φ v v' ∧ (execOp ρ o).run P w = .ok (.value v') w := by
  obtain ⟨v', a, h4, h5, h6⟩ := rdLoad_sound hH hE h
  exact ⟨v', h5, by simp [execOp, ho, h4, Instr.loadAt, Instr.sureAddr, h6]⟩

theorem rd_move {x : Operand} (ho : o.op = .move x ∨ o.op = .assign x) (hE : ∀ v, eva P tm x = some v → VR φ v (ρ x)) {v : Value}
    (h : eva P tm x = some v) (w : World) : ∃ v', VR φ v v' ∧ (execOp ρ o).run P w = .ok (.value v') w :=
  ⟨ρ x, hE v h, by rcases ho with ho | ho <;> simp [execOp, ho]⟩

theorem rd_pick {c a b : Operand} (ho : o.op = .pick c a b) (hE : ∀ x ∈ [c, a, b], ∀ v, eva P tm x = some v → VR φ v (ρ x)) {v : Value}
    (h : rdPick (eva P tm c) (eva P tm a) (eva P tm b) = some v) (w : World) : ∃ v', VR φ v v' ∧ (execOp ρ o).run P w = .ok (.value v') w := by
  unfold rdPick at h
  split at h
  · rename_i x hx
    have hc := (hE c (by simp) _ hx).eq_of_flat rfl
    cases x with
    | true => exact ⟨ρ a, hE a (by simp) v h, by simp [execOp, ho, hc, asBool]⟩
    | false => exact ⟨ρ b, hE b (by simp) v h, by simp [execOp, ho, hc, asBool]⟩
  · cases h

theorem rd_nil {x : Operand} (ho : o.op = .nilCheck x) (hE : ∀ v, eva P tm x = some v → VR φ v (ρ x)) {v : Value}
    (h : rdNil (eva P tm x) = some v) (w : World) : ∃ v', VR φ v v' ∧ (execOp ρ o).run P w = .ok (.value v') w := by
  unfold rdNil at h
  split at h
  · rename_i a ha
    cases h
    obtain ⟨k, off, s⟩ := a
    have h1 := hE _ ha
    obtain ⟨e, h3, h5, h4⟩ := h1.ptr_inv
    exact ⟨ρ x, h1, by simp [execOp, ho, h4]⟩
  · rename_i g a b ha
    cases h
    have h1 := hE _ ha
    cases h2 : ρ x with
    | func fn a' b' =>
      rw [h2] at h1
      have hfn : fn = .func g := by cases h1 <;> rfl
      subst hfn
      exact ⟨_, h1, by simp [execOp, ho, h2]⟩
    | _ => rw [h2] at h1; cases h1
  · rename_i t u ha
    cases h
    have h1 := hE _ ha
    obtain ⟨u', h2, h3⟩ := h1.iface_inv
    exact ⟨ρ x, h1, by simp [execOp, ho, h2]⟩
  · rename_i u _ _ _ ha
    obtain ⟨f, y, rfl, h⟩ := epK_inv h
    cases h
    have h1 := hE _ ha
    obtain ⟨k, o, e, c, _, _, _, _, h5⟩ := h1.ep_inv
    exact ⟨ρ x, h1, by simp [execOp, ho, h5]⟩
  · cases h

theorem fieldOff_inv {s : TypeId} {f d : Nat} (h : fieldOff P s f = some d) :
    ∃ fs fd z, P.underlying s = some (.struct fs) ∧ fs[f]? = some fd ∧ szOf P fd.type = some (z + 1) ∧ d = fd.offset := by
  unfold fieldOff at h
  split at h
  · rename_i fs hfs
    split at h
    · rename_i fd hfd
      split at h
      · rename_i z hz
        cases h
        exact ⟨fs, fd, z, hfs, hfd, hz, rfl⟩
      · cases h
    · cases h
  · cases h

theorem fieldIn_inv {t : TypeId} {f : Nat} {q : Nat × Option Nat} (h : fieldIn P t f = some q) : ∃ fs fd, P.underlying t = some (.struct fs) ∧ fs[f]? = some fd ∧ q.1 = fd.offset ∧
    ((q.2 = none ∧ aggQ P fd.type = some false) ∨ ∃ s, q.2 = some s ∧ aggQ P fd.type = some true ∧ szOf P fd.type = some s) := by
  unfold fieldIn at h
  split at h
  · rename_i fs hfs
    split at h
    · rename_i fd hfd
      refine ⟨fs, fd, hfs, hfd, ?_⟩
      split at h
      · rename_i ha
        split at h
        · rename_i s hs
          cases h
          exact ⟨rfl, .inr ⟨s, rfl, ha, hs⟩⟩
        · cases h
      · rename_i ha
        cases h
        exact ⟨rfl, .inl ⟨rfl, ha⟩⟩
      · cases h
    · cases h
  · cases h

theorem rd_fieldAddr {s : TypeId} {x : Operand} {f : Nat} (ho : o.op = .fieldAddr s x f) (hE : ∀ v, eva P tm x = some v → VR φ v (ρ x)) {v : Value}
    (h : rdFieldAddr P s (eva P tm x) f = some v) (w : World) : ∃ v', VR φ v v' ∧ (execOp ρ o).run P w = .ok (.value v') w := by
  unfold rdFieldAddr at h
  obtain ⟨y, hy, h⟩ := optK_inv h
  have hV := hE y hy
  unfold faV at h
  split at h
  · obtain ⟨d, hd, h3⟩ := optK_inv h
    rw [natF_eq] at h3
    cases h3
    obtain ⟨fs, fd, z, hu, hf, hz, rfl⟩ := fieldOff_inv hd
    obtain ⟨e, h3, _, h4⟩ := hV.ptr_inv
    refine ⟨_, VR.ptr h3, ?_⟩
    simp [execOp, ho, h4, Instr.fieldAt, Instr.sureAddr, run_und hu, hf, fieldPlace, run_size hz, add_none]
  · obtain ⟨g, u, rfl, h⟩ := epK_inv h
    obtain ⟨d, hd, h⟩ := optK_inv h
    split at h
    · obtain ⟨x', hx', hv'⟩ := optK_inv h
      cases hv'
      clear h
      obtain ⟨fs, fd, z, hu, hf, hz, rfl⟩ := fieldOff_inv hd
      obtain ⟨k, o', e, c, h1, h2, h3, h4, h5⟩ := hV.ep_inv
      clear hV hy hE
      rename_i cs _ _ _
      have h3 : o' + cs.length ≤ c.size := h3
      have h4 : ∀ (j : Nat) (v v' : Value), cs[j]? = some v → c[o' + j]? = some v' → VR φ v v' := h4
      have hrun : (execOp ρ o).run P w = .ok (.value (.pointer (some ⟨e.r, o' + fd.offset, none⟩))) w := by
        simp [execOp, ho, h5, Instr.fieldAt, Instr.sureAddr, run_und hu, hf, fieldPlace, run_size hz, add_none]
      refine ⟨_, ?_, hrun⟩
      cases hfi : fieldIn P s f with
      | none => rw [hfi] at hx'; cases hx'
      | some q =>
        rw [hfi] at hx'
        obtain ⟨fs', fd', hu', hf', hq1, hq2⟩ := fieldIn_inv hfi
        rw [hu] at hu'
        cases hu'
        rw [hf] at hf'
        cases hf'
        obtain ⟨qo, qs⟩ := q
        have hq1 : qo = fd.offset := hq1
        subst hq1
        rcases hq2 with ⟨hq, _⟩ | ⟨s', hq, _, _⟩
        · have hq : qs = none := hq
          subst hq
          obtain ⟨x1, hx', hone⟩ := optK_inv (show optK cs[fd.offset]? (fun v => bif oneCell v then some v else none) none = some x' from hx')
          obtain ⟨hone, hx1⟩ := bif_inv hone
          cases hx1
          have hlt := (List.getElem?_eq_some_iff.1 hx').1
          have hcell : x'.cells.toList = [x'] := by cases x' <;> first | rfl | cases hone
          refine .ep h1 h2 (by rw [hcell]; show o' + fd.offset + 1 ≤ c.size; omega) fun j a b ha hb => ?_
          rw [hcell] at ha
          cases j with
          | zero => cases ha; exact h4 fd.offset x' b hx' hb
          | succ j => simp at ha
        · have hq : qs = some s' := hq
          subst hq
          obtain ⟨hle, hx'⟩ := bif_inv (show (bif Nat.ble (fd.offset + s') cs.length then some (Value.agg ⟨(cs.drop fd.offset).take s'⟩) else none) = some x' from hx')
          cases hx'
          have hle := ble_le hle
          refine .ep h1 h2 ?_ fun j a b ha hb => ?_
          · show o' + fd.offset + ((cs.drop fd.offset).take s').length ≤ c.size
            simp only [List.length_take, List.length_drop]; omega
          · have ha : ((cs.drop fd.offset).take s')[j]? = some a := ha
            rw [List.getElem?_take] at ha
            split at ha
            · rw [List.getElem?_drop] at ha
              exact h4 (fd.offset + j) a b ha (by rw [← Nat.add_assoc]; exact hb)
            · cases ha
    · cases h

theorem arrTK_inv {β : Type} {t : TypeId} {k : Nat → Nat → Option β} {y : β} (h : arrTK P t k none = some y) :
    ∃ len e s, P.underlying t = some (.array len e) ∧ szOf P e = some s ∧ k len s = some y := by
  unfold arrTK at h
  split at h
  · rename_i len e he
    obtain ⟨s, h1, h2⟩ := optK_inv h
    exact ⟨len, e, s, he, h1, h2⟩
  · cases h

theorem elSz_inv {t : TypeId} {s : Nat} (h : elSz P t = some s) : ∃ e, P.underlying t = some (.slice e) ∧ szOf P e = some s := by
  unfold elSz at h
  obtain ⟨e, s', hu, hs, h⟩ := sliceTK_inv h
  cases h
  exact ⟨e, hu, hs⟩

theorem rd_indexAddr {t : TypeId} {x ix : Operand} (ho : o.op = .indexAddr t x ix) (hE : ∀ y ∈ [x, ix], ∀ v, eva P tm y = some v → VR φ v (ρ y)) {v : Value}
    (h : rdIndexAddr P t (eva P tm x) (eva P tm ix) = some v) (w : World) : ∃ v', VR φ v v' ∧ (execOp ρ o).run P w = .ok (.value v') w := by
  unfold rdIndexAddr at h
  split at h
  case h_2 => cases h
  rename_i k i0 hi
  obtain ⟨i, rfl, hh⟩ := intNK_inv h
  clear h
  have h := hh
  clear hh
  have h7 := (hE ix (by simp) _ hi).eq_of_flat rfl
  unfold rdIA at h
  split at h
  · rename_i b off len cp hx
    obtain ⟨s, hq, h3⟩ := optK_inv h
    obtain ⟨e, hu, hs⟩ := elSz_inv hq
    obtain ⟨hlt, h4⟩ := bif_inv h3
    rw [natF_eq] at h4
    cases h4
    have hlt' : i < len := blt_lt hlt
    obtain ⟨en, c', h5, _, h6, _⟩ := (hE x (by simp) _ hx).slice_inv
    refine ⟨_, .ptr (o := off + i * s) h5, ?_⟩
    simp [execOp, ho, h6, h7, Instr.indexAt, asIntOf, run_und hu, run_size hs, add_none, hlt']
  · rename_i b off hx
    obtain ⟨len, e, s, hu, hs, h3⟩ := arrTK_inv h
    obtain ⟨hlt, h4⟩ := bif_inv h3
    rw [natF_eq] at h4
    cases h4
    have hlt' : i < len := blt_lt hlt
    obtain ⟨en, h5, _, h6⟩ := (hE x (by simp) _ hx).ptr_inv
    refine ⟨_, .ptr (o := off + i * s) h5, ?_⟩
    simp [execOp, ho, h6, h7, Instr.indexAt, Instr.sureAddr, asIntOf, run_und hu, run_size hs, add_none, hlt']
  · rename_i y _ _ hx
    obtain ⟨s, es, rfl, h⟩ := rowVK_inv h
    unfold idxV at h
    obtain ⟨z, hq, h3⟩ := optK_inv h
    obtain ⟨e, hu, hs⟩ := elSz_inv hq
    obtain ⟨hz0, h4⟩ := bif_inv h3
    obtain ⟨u, hiu, h5⟩ := optK_inv h4
    have hz := beq_eq hz0
    subst hz
    cases h5
    clear h h3 h4
    have hlt : i < es.length := (List.getElem?_eq_some_iff.1 hiu).1
    rcases (hE x (by simp) _ hx).row_inv with ⟨rfl, _⟩ | ⟨k', o', c', en, c, h1, h2, h3, h4, h5, h6, h8⟩
    · simp at hlt
    · have hul := h3 u (List.mem_of_getElem? hiu)
      refine ⟨.pointer (some ⟨en.r, o' + i * s, none⟩), .ep h1 h2 ?_ (fun j a b ha hb => h6 i j u a b hiu ha hb), ?_⟩
      · rw [hul]
        have := h4 (by intro q; subst q; simp at hlt)
        have h9 : (i + 1) * s ≤ es.length * s := Nat.mul_le_mul_right s hlt
        rw [Nat.succ_mul] at h9
        omega
      · simp [execOp, ho, h8, h7, Instr.indexAt, asIntOf, run_und hu, run_size hs, add_none, hlt]
  · cases h

theorem rd_extract {x : Operand} {i : Nat} (ho : o.op = .extract x i) (hE : ∀ v, eva P tm x = some v → VR φ v (ρ x)) {v : Value}
    (h : rdExtract (eva P tm x) i = some v) (w : World) : ∃ v', VR φ v v' ∧ (execOp ρ o).run P w = .ok (.value v') w := by
  unfold rdExtract at h
  split at h
  · rename_i vs hx
    obtain ⟨c', h1, h2⟩ := (hE _ hx).tuple_inv
    obtain ⟨v', h3, h4⟩ := h2.get h
    refine ⟨v', h4, ?_⟩
    have h5 : c'[i]? = some v' := by simpa using h3
    simp [execOp, ho, h1, Instr.extract, h5]
  · cases h

theorem rd_field {t : TypeId} {x : Operand} {f : Nat} (ho : o.op = .field t x f) (hE : ∀ v, eva P tm x = some v → VR φ v (ρ x)) {v : Value}
    (h : rdField P t (eva P tm x) f = some v) (w : World) : ∃ v', VR φ v v' ∧ (execOp ρ o).run P w = .ok (.value v') w := by
  unfold rdField at h
  split at h
  case h_2 => cases h
  rename_i cs hx
  obtain ⟨c', h1, h2⟩ := (hE _ hx).agg_inv
  have h2 : LR φ cs c'.toList := h2
  cases hfi : fieldIn P t f with
  | none => rw [hfi] at h; cases h
  | some q =>
    rw [hfi] at h
    obtain ⟨fs, fd, hu, hf, hq1, hq2⟩ := fieldIn_inv hfi
    obtain ⟨qo, qs⟩ := q
    have hq1 : qo = fd.offset := hq1
    subst hq1
    rcases hq2 with ⟨hq, ha⟩ | ⟨s, hq, ha, hs⟩
    · have hq : qs = none := hq
      subst hq
      have h : cs[fd.offset]? = some v := h
      obtain ⟨v', h3, h4⟩ := h2.get h
      have h5 : c'[fd.offset]? = some v' := by simpa using h3
      exact ⟨v', h4, by simp [execOp, ho, h1, Instr.field, run_und hu, hf, asAgg, part, run_isAgg ha, h5]⟩
    · have hq : qs = some s := hq
      subst hq
      obtain ⟨hle, h3⟩ := bif_inv (show (bif Nat.ble (fd.offset + s) cs.length then some (Value.agg ⟨(cs.drop fd.offset).take s⟩) else none) = some v from h)
      cases h3
      have hle' : fd.offset + s ≤ cs.length := Nat.le_of_ble_eq_true hle
      refine ⟨_, ((h2.drop fd.offset).take s).agg, ?_⟩
      have e : (⟨(c'.toList.drop fd.offset).take s⟩ : Array Value) = c'.extract fd.offset (fd.offset + s) := by
        apply Array.ext'
        simp only [Array.toList_extract, List.extract_eq_take_drop]
        rw [show fd.offset + s - fd.offset = s from by omega]
      rw [e]
      simp [execOp, ho, h1, Instr.field, run_und hu, hf, asAgg, part, run_isAgg ha, run_size hs]

theorem bound_eva {x : Option Operand} {d n : Nat} (hx : ∀ y ∈ x.toList, ∀ v, eva P tm y = some v → VR φ v (ρ y)) (h : bound (evaO P tm x) d = some n) :
    (x = none ∧ n = d) ∨ ∃ y k, x = some y ∧ ρ y = .int k (.ofNat n) := by
  cases x with
  | none => cases h; exact .inl ⟨rfl, rfl⟩
  | some y =>
    right
    cases hv : eva P tm y with
    | none =>
      have : evaO P tm (some y) = none := by simp only [evaO, hv]
      rw [this] at h
      cases h
    | some v =>
      have : evaO P tm (some y) = some (some v) := by simp only [evaO, hv]
      rw [this] at h
      have h : boundV (some v) = some n := h
      unfold boundV at h
      split at h
      · rename_i k i q
        cases q
        obtain ⟨h1, h2⟩ := bif_inv h
        cases h2
        cases i with
        | ofNat m => exact ⟨y, k, rfl, (hx y (by simp) _ hv).eq_of_flat rfl⟩
        | negSucc m => cases h1
      · cases h

theorem run_bounds {lo hi : Option Operand} {isS : Bool} {len cap l h : Nat} (hlo : (lo = none ∧ l = 0) ∨ ∃ y k, lo = some y ∧ ρ y = .int k (.ofNat l))
    (hhi : (hi = none ∧ h = len) ∨ ∃ y k, hi = some y ∧ ρ y = .int k (.ofNat h)) (h1 : l ≤ h) (h2 : h ≤ cap) (w : World) :
    (Instr.sliceBounds isS len cap (lo.map ρ) (hi.map ρ) none).run P w = .ok (l, h, cap) w := by
  have e1 : (h : Int) ≤ (cap : Int) := by omega
  have e2 : (l : Int) ≤ (h : Int) := by omega
  rcases hlo with ⟨rfl, rfl⟩ | ⟨y, k, rfl, hy⟩ <;> rcases hhi with ⟨rfl, rfl⟩ | ⟨z, j, rfl, hz⟩
  · simp [Instr.sliceBounds]
  · simp [Instr.sliceBounds, hz, Instr.sliceBound, asIntOf, h2]
  · simp [Instr.sliceBounds, hy, Instr.sliceBound, asIntOf, h1]
  · simp [Instr.sliceBounds, hy, hz, Instr.sliceBound, asIntOf, h1, h2]

/-- A slice of a known capacity. -/
theorem sliceN_VR {b off cap s l h r : Nat} {en : Ent} {v : Value} (h5 : φ[b]? = some (some en)) (hr : en.r = r) (hs : sliceN b off cap s l h = some v) :
    l ≤ h ∧ h ≤ cap ∧ VR φ v (.slice (if cap = l then some ⟨r, off, none⟩ else some ⟨r, off + l * s, none⟩) (h - l) (cap - l)) := by
  subst hr
  unfold sliceN at hs
  obtain ⟨h8, h9⟩ := bif_inv hs
  simp only [Bool.and_eq_true] at h8
  have h8' := ble_le h8.1.1
  have h10 := ble_le h8.1.2
  have h11 := blt_lt h8.2
  refine ⟨h8', h10, ?_⟩
  rw [natF_eq] at h9
  cases hb : Nat.beq cap l with
  | true =>
    rw [hb] at h9
    have h9 : some (Value.slice (some ⟨b, off, none⟩) (h - l) 0) = some v := h9
    cases h9
    have := beq_eq hb
    subst this
    rw [if_pos rfl, Nat.sub_self]
    exact .slice h5 (.inl ⟨by decide, rfl⟩)
  | false =>
    rw [hb] at h9
    have h9 : natF (Nat.add off (Nat.mul l s)) (fun o => natF (Nat.sub cap l) fun c => some (Value.slice (some ⟨b, o, none⟩) (h - l) c)) = some v := h9
    rw [natF_eq, natF_eq] at h9
    cases h9
    have : cap ≠ l := fun e => by rw [e] at hb; exact absurd (Nat.beq_refl l) (by rw [hb]; decide)
    rw [if_neg this]
    exact .slice h5 (.inl ⟨by show cap - l ≠ unk; omega, rfl⟩)

theorem evaO_none {mx : Option Operand} (h : (match evaO P tm mx with | some none => true | _ => false) = true) : mx = none := by
  cases mx with
  | none => rfl
  | some y =>
    exfalso
    unfold evaO at h
    cases hv : eva P tm y <;> simp only [hv] at h <;> cases h
theorem rho_of {mx : Option Operand} {u : Option Value} (hE : ∀ y ∈ mx.toList, ∀ v, eva P tm y = some v → VR φ v (ρ y)) (h : evaO P tm mx = some u) (hf : flatO u = true) : mx.map ρ = u := by
  cases mx with
  | none => cases h; rfl
  | some y =>
    unfold evaO at h
    cases hv : eva P tm y with
    | none => simp only [hv] at h; cases h
    | some v =>
      simp only [hv] at h
      cases h
      have hf : flat v = true := hf
      have := (hE y (by simp) v hv).eq_of_flat hf
      show some (ρ y) = some v
      rw [this]

theorem rd_slice (hH : HR P W φ (hp H) w) {t : TypeId} {x : Operand} {lo hi mx : Option Operand} (ho : o.op = .slice t x lo hi mx)
    (hE : EvR P φ tm ρ o.op.operands.toList) {v : Value}
    (h : rdSlice P H t (eva P tm x) (evaO P tm lo) (evaO P tm hi) (evaO P tm mx) = some v) : ∃ v', VR φ v v' ∧ (execOp ρ o).run P w = .ok (.value v') w := by
  have hops : o.op.operands.toList = [x] ++ lo.toList ++ hi.toList ++ mx.toList := by rw [ho]; cases lo <;> cases hi <;> cases mx <;> rfl
  unfold rdSlice at h
  split at h
  · rename_i b off len cap hx
    obtain ⟨hmx, h⟩ := bif_inv h
    have hmx := evaO_none hmx
    subst hmx
    rw [hops] at hE
    obtain ⟨en, c', h5, _, h6, h7⟩ := (hE x (by simp) _ hx).slice_inv
    obtain ⟨s, hq, h3⟩ := optK_inv h
    obtain ⟨e, hu, hs⟩ := elSz_inv hq
    obtain ⟨l, hl, h3⟩ := optK_inv h3
    obtain ⟨hh, hhi, h3⟩ := optK_inv h3
    have hlo := bound_eva (ρ := ρ) (φ := φ) (fun y hy => hE y (by simp [hy])) hl
    have hhi := bound_eva (ρ := ρ) (φ := φ) (fun y hy => hE y (by simp [hy])) hhi
    have fin : l ≤ hh → hh ≤ c' → (execOp ρ o).run P w = .ok (.value (.slice (if c' = l then some ⟨en.r, off, none⟩ else some ⟨en.r, off + l * s, none⟩) (hh - l) (c' - l))) w := by
      intro h1 h2
      simp only [execOp, ho, h6, Instr.sliceAt, Sem.run_bind, run_und hu, Result.andThen_ok, Instr.slice, Option.map_none, run_bounds (P := P) hlo hhi h1 h2, run_size hs, Sem.run_pure]
      by_cases hc : c' = l
      · simp [hc]
      · simp [hc, add_none]
    cases hcap : Nat.beq cap unk with
    | false =>
      rw [hcap] at h3
      have h3 : sliceN b off cap s l hh = some v := h3
      have hne : cap ≠ unk := fun e => by rw [e] at hcap; exact absurd (Nat.beq_refl unk) (by rw [hcap]; decide)
      have hc : c' = cap := by
        rcases h7 with h7 | h7
        · exact h7.2
        · exact absurd h7.1 hne
      subst hc
      obtain ⟨h8, h9, h10⟩ := sliceN_VR h5 rfl h3
      exact ⟨_, h10, fin h8 h9⟩
    | true =>
      rw [hcap] at h3
      have h3 : sliceU P H b off len s l hh = some v := h3
      have hcu := beq_eq hcap
      have h7 : len ≤ c' ∧ off + c' * en.es ≤ en.sz := by
        rcases h7 with h7 | h7
        · exact absurd hcu h7.1
        · exact h7.2
      unfold sliceU at h3
      obtain ⟨h8, h9⟩ := bif_inv h3
      simp only [Bool.and_eq_true] at h8
      have h10 := ble_le h8.1
      have h11 := ble_le h8.2
      rw [fin h10 (by omega)]
      cases hb : Nat.beq l 0 with
      | true =>
        rw [hb] at h9
        have h9 : some (Value.slice (some ⟨b, off, none⟩) hh unk) = some v := h9
        cases h9
        have := beq_eq hb
        subst this
        have e0 : (Value.slice (if c' = 0 then some ⟨en.r, off, none⟩ else some ⟨en.r, off + 0 * s, none⟩) (hh - 0) (c' - 0)) = .slice (some ⟨en.r, off, none⟩) hh c' := by simp
        rw [e0]
        exact ⟨_, .slice h5 (.inr ⟨rfl, by omega, h7.2⟩), rfl⟩
      | false =>
        rw [hb] at h9
        obtain ⟨h12, h13⟩ := bif_inv (show (bif Nat.blt l len && esIs P H b s then natF (Nat.sub hh l) (fun n => natF (Nat.add off (Nat.mul l s)) fun o => some (Value.slice (some ⟨b, o, none⟩) n unk)) else none) = some v from h9)
        rw [natF_eq, natF_eq] at h13
        cases h13
        simp only [Bool.and_eq_true] at h12
        have h14 := blt_lt h12.1
        have hes : en.es = s := by
          have h15 := h12.2
          unfold esIs at h15
          cases hg : H.get (bits b) with
          | none => rw [hg] at h15; cases h15
          | some ob =>
            rw [hg] at h15
            cases ob with
            | cells n tr el =>
              have h15 : optK (szOf P el) (fun z => Nat.beq z s) false = true := h15
              cases hz : szOf P el with
              | none => rw [hz] at h15; cases h15
              | some z =>
                rw [hz] at h15
                have h15 : Nat.beq z s = true := h15
                have := beq_eq h15
                subst this
                exact hH.es (show hp H b = some (.cells n tr el) from hg) h5 z hz
            | _ => cases h15
        have : c' ≠ l := by omega
        rw [if_neg this]
        refine ⟨_, .slice h5 (.inr ⟨rfl, by show hh - l ≤ c' - l; omega, ?_⟩), rfl⟩
        rw [hes] at h7
        have e1 : (c' - l) * s = c' * s - l * s := Nat.sub_mul c' l s
        have e2 : l * s ≤ c' * s := Nat.mul_le_mul_right s (by omega)
        show off + l * s + (c' - l) * en.es ≤ en.sz
        rw [hes, e1]
        omega
  · rename_i b off hx
    obtain ⟨hmx, h⟩ := bif_inv h
    have hmx := evaO_none hmx
    subst hmx
    rw [hops] at hE
    obtain ⟨en, h5, _, h6⟩ := (hE x (by simp) _ hx).ptr_inv
    obtain ⟨n, e, s, hu, hs, h3⟩ := arrTK_inv h
    obtain ⟨l, hl, h3⟩ := optK_inv h3
    obtain ⟨hh, hhi, h3⟩ := optK_inv h3
    have hlo := bound_eva (ρ := ρ) (φ := φ) (fun y hy => hE y (by simp [hy])) hl
    have hhi := bound_eva (ρ := ρ) (φ := φ) (fun y hy => hE y (by simp [hy])) hhi
    obtain ⟨h8, h9, h10⟩ := sliceN_VR h5 rfl h3
    refine ⟨_, h10, ?_⟩
    simp only [execOp, ho, h6, Instr.sliceAt, Instr.sureAddr, Sem.run_bind, run_und hu, Result.andThen_ok, Option.map_none, run_bounds (P := P) hlo hhi h8 h9, run_size hs, Sem.run_pure]
    by_cases hc : n = l
    · simp [hc]
    · simp [hc, add_none]
  · rename_i y _ _ hx
    cases hr : isRowV y with
    | true =>
      rw [hr] at h
      obtain ⟨hmx, h⟩ := bif_inv (show (bif (match evaO P tm mx with | some none => true | _ => false) then rowVK y (fun s es => optK (elSz P t) (fun z => bif Nat.beq s z then optK (bound (evaO P tm lo) 0) (fun l => optK (bound (evaO P tm hi) es.length) (fun h => slR es s l h) none) none else none) none) none else none) = some v from h)
      have hmx := evaO_none hmx
      subst hmx
      rw [hops] at hE
      obtain ⟨s, es, rfl, h1⟩ := rowVK_inv h
      obtain ⟨z, hq, h2⟩ := optK_inv h1
      obtain ⟨e, hu, hs⟩ := elSz_inv hq
      obtain ⟨hz0, h3⟩ := bif_inv h2
      have hz := beq_eq hz0
      obtain ⟨l, hl, h4⟩ := optK_inv h3
      obtain ⟨hh, hhi, h5⟩ := optK_inv h4
      have hlo := bound_eva (ρ := ρ) (φ := φ) (fun y hy => hE y (by simp [hy])) hl
      have hhi := bound_eva (ρ := ρ) (φ := φ) (fun y hy => hE y (by simp [hy])) hhi
      unfold slR at h5
      obtain ⟨h6, h7⟩ := bif_inv h5
      simp only [Bool.and_eq_true] at h6
      have h8 := ble_le h6.1
      have h9 := ble_le h6.2
      cases h7
      subst hz
      clear h h1 h2 h3 h4 h5
      rcases (hE x (by simp) _ hx).row_inv with ⟨rfl, hy | ⟨a, c', hy⟩⟩ | ⟨k', o', c', en, c, h1, h2, h3, h4, h5, h6, hy⟩
      rotate_left
      · have e1 : hh = 0 := by simpa using h9
        subst e1
        have e2 : l = 0 := by omega
        subst e2
        have hhi : (hi = none ∧ 0 = 0) ∨ ∃ y k, hi = some y ∧ ρ y = .int k (.ofNat 0) := hhi
        have fin : (execOp ρ o).run P w = .ok (.value (.slice (if c' = 0 then some a else some (a.add (0 * s))) 0 c')) w := by
          simp only [execOp, ho, hy, Instr.sliceAt, Sem.run_bind, run_und hu, Result.andThen_ok, Instr.slice, Option.map_none, run_bounds (P := P) hlo hhi (Nat.le_refl 0) (show 0 ≤ c' by omega), run_size hs, Sem.run_pure]
          by_cases hc : c' = 0
          · simp [hc]
          · simp [hc]
        rw [fin]
        refine ⟨_, ?_, rfl⟩
        split
        · exact .rowE s _ _
        · exact .rowE s _ _
      rotate_left
      · have e1 : hh = 0 := by simpa using h9
        subst e1
        have e2 : l = 0 := by omega
        subst e2
        refine ⟨.slice none 0 0, .row0 s, ?_⟩
        have hhi : (hi = none ∧ 0 = 0) ∨ ∃ y k, hi = some y ∧ ρ y = .int k (.ofNat 0) := hhi
        simp only [execOp, ho, hy, Instr.sliceAt, Sem.run_bind, run_und hu, Result.andThen_ok, Instr.slice, Option.map_none, run_bounds (P := P) (isS := true) hlo hhi (Nat.le_refl 0) (Nat.le_refl 0), run_size hs, Sem.run_pure]
        rfl
      · have hlen : ((es.drop l).take (hh - l)).length = hh - l := by simp only [List.length_take, List.length_drop]; omega
        have key : ∀ o2, (o2 = o' + l * s ∨ (es.drop l).take (hh - l) = []) → VR φ (rowV s ((es.drop l).take (hh - l))) (.slice (some ⟨en.r, o2, none⟩) (hh - l) (c' - l)) := by
          intro o2 ho2
          have h9' : VR φ (rowV s ((es.drop l).take (hh - l))) (.slice (some ⟨en.r, o2, none⟩) ((es.drop l).take (hh - l)).length (c' - l)) := by
            refine .row h1 h2 (fun x hx => h3 x (List.mem_of_mem_drop (List.mem_of_mem_take hx))) (fun hne => ?_) (by rw [hlen]; omega) (fun i j x a b hi ha hb => ?_)
            · rcases ho2 with rfl | q
              · rw [hlen]
                have h10 := h4 (fun q => hne (by rw [q]; simp))
                have h11 : hh * s ≤ es.length * s := Nat.mul_le_mul_right s h9
                have h12 : (hh - l) * s = hh * s - l * s := Nat.sub_mul hh l s
                have h13 : l * s ≤ hh * s := Nat.mul_le_mul_right s h8
                rw [h12]
                omega
              · exact absurd q hne
            · rcases ho2 with rfl | q
              · rw [List.getElem?_take] at hi
                split at hi
                · rw [List.getElem?_drop] at hi
                  refine h6 (l + i) j x a b hi ha ?_
                  rw [Nat.add_mul, ← Nat.add_assoc]
                  exact hb
                · cases hi
              · rw [q] at hi; simp at hi
          rw [hlen] at h9'
          exact h9'
        have fin : (execOp ρ o).run P w = .ok (.value (.slice (if c' = l then some ⟨en.r, o', none⟩ else some ⟨en.r, o' + l * s, none⟩) (hh - l) (c' - l))) w := by
          simp only [execOp, ho, hy, Instr.sliceAt, Sem.run_bind, run_und hu, Result.andThen_ok, Instr.slice, Option.map_none, run_bounds (P := P) hlo hhi h8 (show hh ≤ c' by omega), run_size hs, Sem.run_pure]
          by_cases hc : c' = l
          · simp [hc]
          · simp [hc, add_none]
        rw [fin]
        by_cases hc : c' = l
        · rw [if_pos hc]
          exact ⟨_, key o' (.inr (List.eq_nil_of_length_eq_zero (by rw [hlen]; omega))), rfl⟩
        · rw [if_neg hc]
          exact ⟨_, key _ (.inl rfl), rfl⟩
    | false =>
      rw [hr] at h
      have h : sliceV P t y (evaO P tm lo) (evaO P tm hi) (evaO P tm mx) = some v := h
      unfold sliceV at h
      obtain ⟨ulo, hlo, h1⟩ := optK_inv h
      obtain ⟨uhi, hhi, h2⟩ := optK_inv h1
      obtain ⟨umx, hmx, h3⟩ := optK_inv h2
      obtain ⟨h4, h5⟩ := bif_inv h3
      simp only [Bool.and_eq_true] at h4
      obtain ⟨h6, h7⟩ := fV_inv h5
      rw [hops] at hE
      refine ⟨v, .flat v h6, ?_⟩
      have e1 := rho_of (ρ := ρ) (φ := φ) (fun z hz => hE z (by simp [hz])) hlo h4.2.1
      have e2 := rho_of (ρ := ρ) (φ := φ) (fun z hz => hE z (by simp [hz])) hhi h4.2.2.1
      have e3 := rho_of (ρ := ρ) (φ := φ) (fun z hz => hE z (by simp [hz])) hmx h4.2.2.2
      have e4 := (hE x (by simp) _ hx).eq_of_flat h4.1
      simp only [execOp, ho, e1, e2, e3, e4, Sem.run_bind, h7 w, Result.andThen_ok]
      rfl
  · cases h
end ops
end
end Go.Ev
