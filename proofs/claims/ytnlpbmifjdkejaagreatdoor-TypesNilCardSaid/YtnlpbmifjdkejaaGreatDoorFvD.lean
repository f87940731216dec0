/- The evaluator's operations that leave memory as it is do what the model's do. -/
import Derived.Test.YtnlpbmifjdkejaaGreatDoorFvC
namespace Go.Ev
noncomputable section
variable {P : Program} {W w : World} {φ : Phi} {H : T OB} {tm : T Value} {ρ : Operand → Value}

theorem pureRun_run {α : Type} (P : Program) : ∀ (s : Sem α) (a : α), pureRun P s = some a → ∀ w, s.run P w = .ok a w := by
  intro s
  induction s with
  | pure a => intro b h w; cases h; rfl
  | program k ih => intro b h w; exact ih P b h w
  | mark m k ih => intro b h w; exact ih b h w
  | _ => intro b h; cases h

/-- Each operand's value stands to the model's. -/
def EvR (P : Program) (φ : Phi) (tm : T Value) (ρ : Operand → Value) (l : List Operand) : Prop := ∀ x ∈ l, ∀ v, eva P tm x = some v → VR φ v (ρ x)

theorem nextV_inv {r : Option Next} {v : Value} (h : nextV r = some v) : r = some (.value v) ∧ flat v = true := by
  unfold nextV at h
  split at h
  · rw [valF_eq] at h
    obtain ⟨h1, h2⟩ := bif_inv h
    cases h2
    exact ⟨rfl, h1⟩
  · cases h

theorem exec_flat {o : Oper} (hs : ∀ cs b, o.op ≠ .select cs b) (hE : EvR P φ tm ρ o.op.operands.toList)
    (hf : ∀ x ∈ o.op.operands.toList, flatAt P tm x = true) : execOp ρ o = execOp (ρof P tm) o := by
  refine execOp_congr o hs fun x hx => ?_
  have hx' : x ∈ o.op.operands.toList := by simpa using hx
  have h1 := hf x hx'
  unfold flatAt at h1
  unfold ρof
  cases hv : eva P tm x with
  | none => rw [hv] at h1; cases h1
  | some u =>
    rw [hv] at h1
    exact (hE x hx' u hv).eq_of_flat h1

theorem flatRun_sound {o : Oper} (hs : ∀ cs b, o.op ≠ .select cs b) (hE : EvR P φ tm ρ o.op.operands.toList) {v : Value} (h : flatRun P tm o = some v) :
    ∃ v', VR φ v v' ∧ ∀ w, (execOp ρ o).run P w = .ok (.value v') w := by
  unfold flatRun at h
  obtain ⟨h1, h2⟩ := bif_inv h
  obtain ⟨h3, h4⟩ := nextV_inv h2
  refine ⟨v, .flat v h4, fun w => ?_⟩
  rw [exec_flat hs hE (List.all_eq_true.1 h1)]
  exact pureRun_run P _ _ h3 w

theorem blt_lt {a b : Nat} (h : Nat.blt a b = true) : a < b := Nat.le_of_ble_eq_true h
theorem ble_le {a b : Nat} (h : Nat.ble a b = true) : a ≤ b := Nat.le_of_ble_eq_true h
theorem beq_eq {a b : Nat} (h : Nat.beq a b = true) : a = b := Nat.eq_of_beq_eq_true h

/-! types -/
theorem run_size {t : TypeId} {s : Nat} (h : szOf P t = some s) (w : World) : (sizeOf t).run P w = .ok s w := by
  unfold szOf at h
  split at h
  · rename_i i hi
    cases h
    simp [sizeOf, typeInfo, hi]
  · cases h
theorem run_und {t : TypeId} {d : TypeDesc} (h : P.underlying t = some d) (w : World) : (underlying t).run P w = .ok d w := run_underlying h w
theorem run_isAgg {t : TypeId} {b : Bool} (h : aggQ P t = some b) (w : World) : (isAgg t).run P w = .ok b w := by
  unfold aggQ at h
  unfold isAgg
  split at h
  · rename_i fs hd; cases h; simp [run_und hd]
  · rename_i n e hd; cases h; simp [run_und hd]
  · rename_i d hn1 hn2 hd
    cases h
    rw [Sem.run_bind, run_und hd, Result.andThen_ok]
    split
    · rename_i fs; exact absurd rfl (hn1 fs)
    · rename_i n e; exact absurd rfl (hn2 n e)
    · rfl
  · cases h
/-! loads -/
/-- Cells of a block of ours, and the model's row. -/
theorem row_LR {c : Array Value} {n : Nat} {t : T Value} (hc : RowR φ c n t)
    {s off : Nat} {l : List Value} (hl : toL t s off = some l) (hn : off + s ≤ n) (hsz : n ≤ c.size) : LR φ l ((c.toList.drop off).take s) ∧ l.length = s := by
  obtain ⟨h1, h2⟩ := toL_some t s off l hl
  have hlen : ((c.toList.drop off).take s).length = s := by simp; omega
  refine ⟨⟨by rw [h1, hlen], fun i v v' hv hv' => ?_⟩, h1⟩
  have hi : i < s := by have := (List.getElem?_eq_some_iff.1 hv).1; omega
  have h3 := h2 i hi
  rw [hv] at h3
  obtain ⟨u, h5, h6⟩ := hc (off + i) (by omega) v h3
  rw [List.getElem?_take, if_pos hi, List.getElem?_drop, Array.getElem?_toList, h5] at hv'
  cases hv'
  exact h6

/-- The model reads the cells of a row. -/
theorem run_row {c : Array Value} {r off s : Nat} {el : TypeId} {fz : Nat × Nat} {w : World} (hr : w.heap[r]? = some (.cells c el fz)) (hs : off + s ≤ c.size) :
    (loadCells ⟨r, off, none⟩ s).run P w = .ok ((c.toList.drop off).take s).toArray w := by
  have hlen : ((c.toList.drop off).take s).length = s := by simp; omega
  have := run_loadCells_list (P := P) w ⟨r, off, none⟩ ((c.toList.drop off).take s) (fun j v hv => by
    rw [add_none, cell_of_row w r (off + j) c el fz hr]
    rw [List.getElem?_take] at hv
    split at hv
    · rw [List.getElem?_drop] at hv; simpa using hv
    · cases hv)
  rwa [hlen] at this

theorem loadO_sound (hH : HR P W φ (hp H) w) {t : TypeId} {b off : Nat} {v : Value} {e : Ent} (hb : φ[b]? = some (some e)) (h : loadO P H t b off = some v) :
    ∃ v', VR φ v v' ∧ (loadVar t ⟨e.r, off, none⟩).run P w = .ok v' w := by
  unfold loadO at h
  obtain ⟨n, tr, h1, h2⟩ := rowK_inv h
  obtain ⟨c, el', fz, hr, hn, hc⟩ := hH.row h1 hb
  unfold loadB at h2
  obtain ⟨a, ha, h3⟩ := optK_inv h2
  unfold loadVar
  rw [Sem.run_bind, run_isAgg ha, Result.andThen_ok]
  cases a with
  | true =>
    have h3' : loadA P n tr t off = some v := h3
    unfold loadA at h3'
    obtain ⟨s, hs, h4⟩ := optK_inv h3'
    obtain ⟨hle, h5⟩ := bif_inv h4
    obtain ⟨l, hl, h6⟩ := optK_inv h5
    cases h6
    have hle' : off + s ≤ n := Nat.le_of_ble_eq_true hle
    obtain ⟨h7, h8⟩ := row_LR hc hl hle' (by omega)
    refine ⟨_, h7.agg, ?_⟩
    simp only [if_true, Sem.run_bind, run_size hs, Result.andThen_ok, run_row hr (show off + s ≤ c.size by omega)]
    rfl
  | false =>
    have h3' : load1 n tr off = some v := h3
    unfold load1 at h3'
    obtain ⟨hlt, h4⟩ := bif_inv h3'
    obtain ⟨v', h5, h6⟩ := hc off (blt_lt hlt) v h4
    refine ⟨v', h6, ?_⟩
    simp only [Bool.false_eq_true, if_false, run_load, cell_of_row w e.r off c el' fz hr, h5]

/-! the readers -/
theorem eva_lit {x : Operand} {v : Value} (h : eva P tm x = some v) : eva P tm x = some v := h

section ops
variable {o : Oper}
theorem rd_load (hH : HR P W φ (hp H) w) {t : TypeId} {x : Operand} (ho : o.op = .load t x) (hE : ∀ v, eva P tm x = some v → VR φ v (ρ x)) {v : Value}
    (h : ptrK (eva P tm x) (fun b off => loadO P H t b off) none = some v) : ∃ v', VR φ v v' ∧ (execOp ρ o).run P w = .ok (.value v') w := by
  obtain ⟨b, off, h1, h2⟩ := ptrK_inv h
  obtain ⟨e, h3, _, h4⟩ := (hE _ h1).ptr_inv
  obtain ⟨v', h5, h6⟩ := loadO_sound hH h3 h2
  exact ⟨v', h5, by simp [execOp, ho, h4, Instr.loadAt, Instr.sureAddr, h6]⟩

theorem rd_move {x : Operand} (ho : o.op = .move x ∨ o.op = .assign x) (hE : ∀ v, eva P tm x = some v → VR φ v (ρ x)) {v : Value}
    (h : eva P tm x = some v) (w : World) : ∃ v', VR φ v v' ∧ (execOp ρ o).run P w = .ok (.value v') w :=
  ⟨ρ x, hE v h, by rcases ho with ho | ho <;> simp [execOp, ho]⟩

theorem rd_pick {c a b : Operand} (ho : o.op = .pick c a b) (hE : ∀ x ∈ [c, a, b], ∀ v, eva P tm x = some v → VR φ v (ρ x)) {v : Value}
    (h : rdPick P tm c a b = some v) (w : World) : ∃ v', VR φ v v' ∧ (execOp ρ o).run P w = .ok (.value v') w := by
  unfold rdPick at h
  split at h
  · rename_i x hx
    have hc := (hE c (by simp) _ hx).eq_of_flat rfl
    cases x with
    | true => exact ⟨ρ a, hE a (by simp) v h, by simp [execOp, ho, hc, asBool]⟩
    | false => exact ⟨ρ b, hE b (by simp) v h, by simp [execOp, ho, hc, asBool]⟩
  · cases h

theorem rd_nil {x : Operand} (ho : o.op = .nilCheck x) (hE : ∀ v, eva P tm x = some v → VR φ v (ρ x)) {v : Value}
    (h : rdNil (eva P tm x) = some v) (w : World) : ∃ v', VR φ v v' ∧ (execOp ρ o).run P w = .ok (.value v') w := by
  unfold rdNil at h
  split at h
  · rename_i a ha
    cases h
    obtain ⟨k, off, s⟩ := a
    have h1 := hE _ ha
    obtain ⟨e, h3, h5, h4⟩ := h1.ptr_inv
    exact ⟨ρ x, h1, by simp [execOp, ho, h4]⟩
  · rename_i g a b ha
    cases h
    have h1 := hE _ ha
    cases h2 : ρ x with
    | func fn a' b' =>
      rw [h2] at h1
      have hfn : fn = .func g := by cases h1 <;> rfl
      subst hfn
      exact ⟨_, h1, by simp [execOp, ho, h2]⟩
    | _ => rw [h2] at h1; cases h1
  · rename_i t u ha
    cases h
    have h1 := hE _ ha
    obtain ⟨u', h2, h3⟩ := h1.iface_inv
    exact ⟨ρ x, h1, by simp [execOp, ho, h2]⟩
  · cases h

theorem fieldOff_inv {s : TypeId} {f d : Nat} (h : fieldOff P s f = some d) :
    ∃ fs fd z, P.underlying s = some (.struct fs) ∧ fs[f]? = some fd ∧ szOf P fd.type = some (z + 1) ∧ d = fd.offset := by
  unfold fieldOff at h
  split at h
  · rename_i fs hfs
    split at h
    · rename_i fd hfd
      split at h
      · rename_i z hz
        cases h
        exact ⟨fs, fd, z, hfs, hfd, hz, rfl⟩
      · cases h
    · cases h
  · cases h

theorem rd_fieldAddr {s : TypeId} {x : Operand} {f : Nat} (ho : o.op = .fieldAddr s x f) (hE : ∀ v, eva P tm x = some v → VR φ v (ρ x)) {v : Value}
    (h : rdFieldAddr P tm s x f = some v) (w : World) : ∃ v', VR φ v v' ∧ (execOp ρ o).run P w = .ok (.value v') w := by
  unfold rdFieldAddr at h
  obtain ⟨b, off, h1, h2⟩ := ptrK_inv h
  obtain ⟨d, hd, h3⟩ := optK_inv h2
  rw [natF_eq] at h3
  cases h3
  obtain ⟨fs, fd, z, hu, hf, hz, rfl⟩ := fieldOff_inv hd
  obtain ⟨e, h3, _, h4⟩ := (hE _ h1).ptr_inv
  refine ⟨_, .ptr (o := off + fd.offset) h3, ?_⟩
  simp [execOp, ho, h4, Instr.fieldAt, Instr.sureAddr, run_und hu, hf, fieldPlace, run_size hz, add_none]

theorem arrTK_inv {β : Type} {t : TypeId} {k : Nat → Nat → Option β} {y : β} (h : arrTK P t k none = some y) :
    ∃ len e s, P.underlying t = some (.array len e) ∧ szOf P e = some s ∧ k len s = some y := by
  unfold arrTK at h
  split at h
  · rename_i len e he
    obtain ⟨s, h1, h2⟩ := optK_inv h
    exact ⟨len, e, s, he, h1, h2⟩
  · cases h

theorem rd_indexAddr {t : TypeId} {x ix : Operand} (ho : o.op = .indexAddr t x ix) (hE : ∀ y ∈ [x, ix], ∀ v, eva P tm y = some v → VR φ v (ρ y)) {v : Value}
    (h : rdIndexAddr P t (eva P tm x) (eva P tm ix) = some v) (w : World) : ∃ v', VR φ v v' ∧ (execOp ρ o).run P w = .ok (.value v') w := by
  unfold rdIndexAddr at h
  split at h
  · rename_i b off len cp k i hx hi
    obtain ⟨e, s, hu, hs, h3⟩ := sliceTK_inv h
    obtain ⟨hlt, h4⟩ := bif_inv h3
    rw [natF_eq] at h4
    cases h4
    have hlt' : i < len := blt_lt hlt
    obtain ⟨en, c', h5, _, h6, _⟩ := (hE x (by simp) _ hx).slice_inv
    have h7 := (hE ix (by simp) _ hi).eq_of_flat rfl
    refine ⟨_, .ptr (o := off + i * s) h5, ?_⟩
    simp [execOp, ho, h6, h7, Instr.indexAt, asIntOf, run_und hu, run_size hs, add_none, hlt']
  · rename_i b off k i hx hi
    obtain ⟨len, e, s, hu, hs, h3⟩ := arrTK_inv h
    obtain ⟨hlt, h4⟩ := bif_inv h3
    rw [natF_eq] at h4
    cases h4
    have hlt' : i < len := blt_lt hlt
    obtain ⟨en, h5, _, h6⟩ := (hE x (by simp) _ hx).ptr_inv
    have h7 := (hE ix (by simp) _ hi).eq_of_flat rfl
    refine ⟨_, .ptr (o := off + i * s) h5, ?_⟩
    simp [execOp, ho, h6, h7, Instr.indexAt, Instr.sureAddr, asIntOf, run_und hu, run_size hs, add_none, hlt']
  · cases h

theorem rd_extract {x : Operand} {i : Nat} (ho : o.op = .extract x i) (hE : ∀ v, eva P tm x = some v → VR φ v (ρ x)) {v : Value}
    (h : rdExtract (eva P tm x) i = some v) (w : World) : ∃ v', VR φ v v' ∧ (execOp ρ o).run P w = .ok (.value v') w := by
  unfold rdExtract at h
  split at h
  · rename_i vs hx
    obtain ⟨c', h1, h2⟩ := (hE _ hx).tuple_inv
    obtain ⟨v', h3, h4⟩ := h2.get h
    refine ⟨v', h4, ?_⟩
    have h5 : c'[i]? = some v' := by simpa using h3
    simp [execOp, ho, h1, Instr.extract, h5]
  · cases h

theorem rd_field {t : TypeId} {x : Operand} {f : Nat} (ho : o.op = .field t x f) (hE : ∀ v, eva P tm x = some v → VR φ v (ρ x)) {v : Value}
    (h : rdField P t (eva P tm x) f = some v) (w : World) : ∃ v', VR φ v v' ∧ (execOp ρ o).run P w = .ok (.value v') w := by
  unfold rdField at h
  split at h
  case h_2 => cases h
  rename_i cs hx
  obtain ⟨c', h1, h2⟩ := (hE _ hx).agg_inv
  unfold fieldIn at h
  cases hu : P.underlying t with
  | none => simp only [hu] at h; cases h
  | some d =>
    cases d with
    | struct fs =>
      simp only [hu] at h
      cases hf : fs[f]? with
      | none => simp only [hf] at h; cases h
      | some fd =>
        simp only [hf] at h
        cases ha : aggQ P fd.type with
        | none => simp only [ha] at h; cases h
        | some b =>
          simp only [ha] at h
          cases b with
          | false =>
            have h : cs.toList[fd.offset]? = some v := h
            obtain ⟨v', h3, h4⟩ := h2.get h
            have h5 : c'[fd.offset]? = some v' := by simpa using h3
            exact ⟨v', h4, by simp [execOp, ho, h1, Instr.field, run_und hu, hf, asAgg, part, run_isAgg ha, h5]⟩
          | true =>
            cases hs : szOf P fd.type with
            | none => simp only [hs] at h; cases h
            | some s =>
              simp only [hs] at h
              obtain ⟨hle, h3⟩ := bif_inv h
              cases h3
              have hle' : fd.offset + s ≤ cs.toList.length := Nat.le_of_ble_eq_true hle
              refine ⟨_, ((h2.drop fd.offset).take s).agg, ?_⟩
              have e : (⟨(c'.toList.drop fd.offset).take s⟩ : Array Value) = c'.extract fd.offset (fd.offset + s) := by
                apply Array.ext'
                simp only [Array.toList_extract, List.extract_eq_take_drop]
                rw [show fd.offset + s - fd.offset = s from by omega]
              rw [e]
              simp [execOp, ho, h1, Instr.field, run_und hu, hf, asAgg, part, run_isAgg ha, run_size hs]
    | _ => simp only [hu] at h; cases h

theorem bound_eva {x : Option Operand} {d n : Nat} (hx : ∀ y ∈ x.toList, ∀ v, eva P tm y = some v → VR φ v (ρ y)) (h : bound P tm x d = some n) :
    (x = none ∧ n = d) ∨ ∃ y k, x = some y ∧ ρ y = .int k (.ofNat n) := by
  cases x with
  | none => cases h; exact .inl ⟨rfl, rfl⟩
  | some y =>
    right
    have h : boundV (eva P tm y) = some n := h
    unfold boundV at h
    split at h
    · rename_i k m hv
      cases h
      exact ⟨y, k, rfl, (hx y (by simp) _ hv).eq_of_flat rfl⟩
    · cases h

theorem run_bounds {x lo hi : Option Operand} {isS : Bool} {len cap l h : Nat} (hlo : (lo = none ∧ l = 0) ∨ ∃ y k, lo = some y ∧ ρ y = .int k (.ofNat l))
    (hhi : (hi = none ∧ h = len) ∨ ∃ y k, hi = some y ∧ ρ y = .int k (.ofNat h)) (h1 : l ≤ h) (h2 : h ≤ cap) (w : World) :
    (Instr.sliceBounds isS len cap (lo.map ρ) (hi.map ρ) none).run P w = .ok (l, h, cap) w := by
  have e1 : (h : Int) ≤ (cap : Int) := by omega
  have e2 : (l : Int) ≤ (h : Int) := by omega
  rcases hlo with ⟨rfl, rfl⟩ | ⟨y, k, rfl, hy⟩ <;> rcases hhi with ⟨rfl, rfl⟩ | ⟨z, j, rfl, hz⟩
  · simp [Instr.sliceBounds]
  · simp [Instr.sliceBounds, hz, Instr.sliceBound, asIntOf, h2]
  · simp [Instr.sliceBounds, hy, Instr.sliceBound, asIntOf, h1]
  · simp [Instr.sliceBounds, hy, hz, Instr.sliceBound, asIntOf, h1, h2]

/-- A slice of a known capacity. -/
theorem sliceN_VR {b off cap s l h r : Nat} {en : Ent} {v : Value} (h5 : φ[b]? = some (some en)) (hr : en.r = r) (hs : sliceN b off cap s l h = some v) :
    l ≤ h ∧ h ≤ cap ∧ VR φ v (.slice (if cap = l then some ⟨r, off, none⟩ else some ⟨r, off + l * s, none⟩) (h - l) (cap - l)) := by
  subst hr
  unfold sliceN at hs
  obtain ⟨h8, h9⟩ := bif_inv hs
  simp only [Bool.and_eq_true] at h8
  have h8' := ble_le h8.1.1
  have h10 := ble_le h8.1.2
  have h11 := blt_lt h8.2
  refine ⟨h8', h10, ?_⟩
  rw [natF_eq] at h9
  cases hb : Nat.beq cap l with
  | true =>
    rw [hb] at h9
    have h9 : some (Value.slice (some ⟨b, off, none⟩) (h - l) 0) = some v := h9
    cases h9
    have := beq_eq hb
    subst this
    rw [if_pos rfl, Nat.sub_self]
    exact .slice h5 (.inl ⟨by decide, rfl⟩)
  | false =>
    rw [hb] at h9
    have h9 : natF (Nat.add off (Nat.mul l s)) (fun o => natF (Nat.sub cap l) fun c => some (Value.slice (some ⟨b, o, none⟩) (h - l) c)) = some v := h9
    rw [natF_eq, natF_eq] at h9
    cases h9
    have : cap ≠ l := fun e => by rw [e] at hb; exact absurd (Nat.beq_refl l) (by rw [hb]; decide)
    rw [if_neg this]
    exact .slice h5 (.inl ⟨by show cap - l ≠ unk; omega, rfl⟩)

theorem rd_slice (hH : HR P W φ (hp H) w) {t : TypeId} {x : Operand} {lo hi : Option Operand} (ho : o.op = .slice t x lo hi none)
    (hE : EvR P φ tm ρ o.op.operands.toList) {v : Value}
    (h : rdSlice P H tm o t x lo hi = some v) : ∃ v', VR φ v v' ∧ (execOp ρ o).run P w = .ok (.value v') w := by
  have hops : o.op.operands.toList = [x] ++ lo.toList ++ hi.toList := by rw [ho]; cases lo <;> cases hi <;> rfl
  unfold rdSlice at h
  split at h
  · rename_i b off len cap hx
    rw [hops] at hE
    obtain ⟨en, c', h5, _, h6, h7⟩ := (hE x (by simp) _ hx).slice_inv
    obtain ⟨e, s, hu, hs, h3⟩ := sliceTK_inv h
    obtain ⟨l, hl, h3⟩ := optK_inv h3
    obtain ⟨hh, hhi, h3⟩ := optK_inv h3
    have hlo := bound_eva (ρ := ρ) (φ := φ) (fun y hy => hE y (by simp [hy])) hl
    have hhi := bound_eva (ρ := ρ) (φ := φ) (fun y hy => hE y (by simp [hy])) hhi
    have fin : l ≤ hh → hh ≤ c' → (execOp ρ o).run P w = .ok (.value (.slice (if c' = l then some ⟨en.r, off, none⟩ else some ⟨en.r, off + l * s, none⟩) (hh - l) (c' - l))) w := by
      intro h1 h2
      simp only [execOp, ho, h6, Instr.sliceAt, Sem.run_bind, run_und hu, Result.andThen_ok, Instr.slice, Option.map_none, run_bounds (P := P) (x := none) hlo hhi h1 h2, run_size hs, Sem.run_pure]
      by_cases hc : c' = l
      · simp [hc]
      · simp [hc, add_none]
    cases hcap : Nat.beq cap unk with
    | false =>
      rw [hcap] at h3
      have h3 : sliceN b off cap s l hh = some v := h3
      have hne : cap ≠ unk := fun e => by rw [e] at hcap; exact absurd (Nat.beq_refl unk) (by rw [hcap]; decide)
      have hc : c' = cap := by
        rcases h7 with h7 | h7
        · exact h7.2
        · exact absurd h7.1 hne
      subst hc
      obtain ⟨h8, h9, h10⟩ := sliceN_VR h5 rfl h3
      exact ⟨_, h10, fin h8 h9⟩
    | true =>
      rw [hcap] at h3
      have h3 : sliceU P H b off len s l hh = some v := h3
      have hcu := beq_eq hcap
      have h7 : len ≤ c' ∧ off + c' * en.es ≤ en.sz := by
        rcases h7 with h7 | h7
        · exact absurd hcu h7.1
        · exact h7.2
      unfold sliceU at h3
      obtain ⟨h8, h9⟩ := bif_inv h3
      simp only [Bool.and_eq_true] at h8
      have h10 := ble_le h8.1
      have h11 := ble_le h8.2
      rw [fin h10 (by omega)]
      cases hb : Nat.beq l 0 with
      | true =>
        rw [hb] at h9
        have h9 : some (Value.slice (some ⟨b, off, none⟩) hh unk) = some v := h9
        cases h9
        have := beq_eq hb
        subst this
        have e0 : (Value.slice (if c' = 0 then some ⟨en.r, off, none⟩ else some ⟨en.r, off + 0 * s, none⟩) (hh - 0) (c' - 0)) = .slice (some ⟨en.r, off, none⟩) hh c' := by simp
        rw [e0]
        exact ⟨_, .slice h5 (.inr ⟨rfl, by omega, h7.2⟩), rfl⟩
      | false =>
        rw [hb] at h9
        obtain ⟨h12, h13⟩ := bif_inv (show (bif Nat.blt l len && esIs P H b s then natF (Nat.sub hh l) (fun n => natF (Nat.add off (Nat.mul l s)) fun o => some (Value.slice (some ⟨b, o, none⟩) n unk)) else none) = some v from h9)
        rw [natF_eq, natF_eq] at h13
        cases h13
        simp only [Bool.and_eq_true] at h12
        have h14 := blt_lt h12.1
        have hes : en.es = s := by
          have h15 := h12.2
          unfold esIs at h15
          cases hg : H.get (bits b) with
          | none => rw [hg] at h15; cases h15
          | some ob =>
            rw [hg] at h15
            cases ob with
            | cells n tr el =>
              have h15 : optK (szOf P el) (fun z => Nat.beq z s) false = true := h15
              cases hz : szOf P el with
              | none => rw [hz] at h15; cases h15
              | some z =>
                rw [hz] at h15
                have h15 : Nat.beq z s = true := h15
                have := beq_eq h15
                subst this
                exact hH.es (show hp H b = some (.cells n tr el) from hg) h5 z hz
            | _ => cases h15
        have : c' ≠ l := by omega
        rw [if_neg this]
        refine ⟨_, .slice h5 (.inr ⟨rfl, by show hh - l ≤ c' - l; omega, ?_⟩), rfl⟩
        rw [hes] at h7
        have e1 : (c' - l) * s = c' * s - l * s := Nat.sub_mul c' l s
        have e2 : l * s ≤ c' * s := Nat.mul_le_mul_right s (by omega)
        show off + l * s + (c' - l) * en.es ≤ en.sz
        rw [hes, e1]
        omega
  · rename_i b off hx
    rw [hops] at hE
    obtain ⟨en, h5, _, h6⟩ := (hE x (by simp) _ hx).ptr_inv
    obtain ⟨n, e, s, hu, hs, h3⟩ := arrTK_inv h
    obtain ⟨l, hl, h3⟩ := optK_inv h3
    obtain ⟨hh, hhi, h3⟩ := optK_inv h3
    have hlo := bound_eva (ρ := ρ) (φ := φ) (fun y hy => hE y (by simp [hy])) hl
    have hhi := bound_eva (ρ := ρ) (φ := φ) (fun y hy => hE y (by simp [hy])) hhi
    obtain ⟨h8, h9, h10⟩ := sliceN_VR h5 rfl h3
    refine ⟨_, h10, ?_⟩
    simp only [execOp, ho, h6, Instr.sliceAt, Instr.sureAddr, Sem.run_bind, run_und hu, Result.andThen_ok, Option.map_none, run_bounds (P := P) (x := none) hlo hhi h8 h9, run_size hs, Sem.run_pure]
    by_cases hc : n = l
    · simp [hc]
    · simp [hc, add_none]
  · obtain ⟨v', h1, h2⟩ := flatRun_sound (by simp [ho]) hE h
    exact ⟨v', h1, h2 w⟩
end ops
end
end Go.Ev
