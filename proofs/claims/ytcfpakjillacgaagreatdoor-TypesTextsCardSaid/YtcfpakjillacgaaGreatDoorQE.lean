/- The evaluator's operations that leave memory as it is do what the model's do: the rest, and all together. -/
import Derived.Test.YtcfpakjillacgaaGreatDoorQD
import Derived.MapKept
import Derived.Laws.BytesString
import Derived.Laws.StructEq
namespace Go.Ev
noncomputable section
variable {P : Program} {W w : World} {φ : Phi} {H : T OB} {tm : T Value} {ρ : Operand → Value}

/-! literals -/
theorem fold_LR : ∀ (l l' : List Value), LR φ l l' → ∀ (k off : Nat) (cs cs' : Array Value), LR φ cs.toList cs'.toList →
    LR φ ((l.zipIdx k).foldl (fun (cs : Array Value) p => cs.setIfInBounds (off + p.2) p.1) cs).toList
      ((l'.zipIdx k).foldl (fun (cs : Array Value) p => cs.setIfInBounds (off + p.2) p.1) cs').toList
  | [], l', h, k, off, cs, cs', hc => by
    cases h.nil_inv
    exact hc
  | v :: l, l', h, k, off, cs, cs', hc => by
    obtain ⟨v', m, rfl, h1, h2⟩ := h.inv
    simp only [List.zipIdx_cons, List.foldl_cons]
    refine fold_LR l m h2 (k + 1) off _ _ ?_
    rw [Array.toList_setIfInBounds, Array.toList_setIfInBounds]
    exact hc.set _ h1

/-- Parts of a literal, one by one. -/
inductive PR (φ : Phi) : List (Nat × Value) → List (Nat × Value) → Prop
  | nil : PR φ [] []
  | cons {i : Nat} {v v' : Value} {l l' : List (Nat × Value)} (h : VR φ v v') (hl : PR φ l l') : PR φ ((i, v) :: l) ((i, v') :: l')

theorem fill_PR (place : Nat → Option (Nat × Nat)) {vs vs' : List (Nat × Value)} (h : PR φ vs vs') : ∀ (cs cs' r : Array Value), LR φ cs.toList cs'.toList →
    Instr.fill place cs vs = some r → ∃ r', Instr.fill place cs' vs' = some r' ∧ LR φ r.toList r'.toList := by
  induction h with
  | nil => intro cs cs' r hc h; cases h; exact ⟨cs', rfl, hc⟩
  | @cons i v v' l l' hv _ ih =>
    intro cs cs' r hc h
    unfold Instr.fill at h ⊢
    cases hp : place i with
    | none => simp only [hp] at h; cases h
    | some q =>
      obtain ⟨off, size⟩ := q
      simp only [hp] at h ⊢
      have hcl := hv.cells
      have e1 : v'.cells.size = v.cells.size := by have := hcl.len; simpa using this.symm
      have e2 : cs'.size = cs.size := by have := hc.len; simpa using this.symm
      rw [e1, e2]
      split at h
      · cases h
      · rename_i hb
        rw [if_neg hb]
        refine ih _ _ r ?_ h
        rw [← Array.foldl_toList, ← Array.foldl_toList, Array.toList_zipIdx, Array.toList_zipIdx]
        exact fold_LR _ _ hcl 0 off cs cs' hc

theorem parts_PR : ∀ (ps : List (Nat × Operand)) (vs : List (Nat × Value)), (∀ p ∈ ps, ∀ v, eva P tm p.2 = some v → VR φ v (ρ p.2)) → parts P tm ps = some vs →
    PR φ vs (ps.map fun p => (p.1, ρ p.2))
  | [], vs, _, h => by cases h; exact .nil
  | p :: ps, vs, hE, h => by
    unfold parts at h
    split at h
    · cases h
    · rename_i v hv
      split at h
      · cases h
      · rename_i us hus
        cases h
        exact .cons (hE p (by simp) v hv) (parts_PR ps us (fun q hq => hE q (by simp [hq])) hus)

theorem zeroC_inv {t : TypeId} {l : List Value} (h : zeroC P t = some l) : ∃ i z, P.info? t = some i ∧ i.zero = some z ∧ z.cells.toList = l ∧ ∀ x ∈ l, flat x = true := by
  unfold zeroC at h
  split at h
  · rename_i i hi
    split at h
    · rename_i z hz
      obtain ⟨h1, h2⟩ := bif_inv h
      cases h2
      exact ⟨i, z, hi, hz, rfl, fun x hx => List.all_eq_true.1 h1 x hx⟩
    · cases h
  · cases h

theorem built_PR {t : TypeId} {l : List Value} (hz : zeroC P t = some l) {vs vs' : List (Nat × Value)} (h : PR φ vs vs') {r : Array Value} (hb : P.built t vs = some r) :
    ∃ r', P.built t vs' = some r' ∧ LR φ r.toList r'.toList := by
  obtain ⟨i, z, hi, hz, hl, hf⟩ := zeroC_inv hz
  have hzz : LR φ z.cells.toList z.cells.toList := .of_flat (by rw [hl]; exact hf)
  unfold Program.built at hb ⊢
  rw [hi] at hb ⊢
  cases hu : P.underlying t with
  | none => rw [hu] at hb; cases hb
  | some d =>
    rw [hu] at hb
    cases d with
    | struct fs =>
      simp only [hz] at hb ⊢
      cases hp : fs.toList.mapM (fun f => (P.info? f.type).map fun i => (f.offset, i.size)) with
      | none => simp only [hp] at hb; cases hb
      | some places =>
        simp only [hp] at hb ⊢
        exact fill_PR _ h _ _ r hzz hb
    | array n e =>
      simp only [hz] at hb ⊢
      cases hp : P.info? e with
      | none => simp only [hp] at hb; cases hb
      | some ie =>
        simp only [hp] at hb ⊢
        exact fill_PR _ h _ _ r hzz hb
    | _ => cases hb

section ops
variable {o : Oper}
theorem rd_build {t : TypeId} {ps : Array (Nat × Operand)} (ho : o.op = .build t ps) (hE : EvR P φ tm ρ o.op.operands.toList) {v : Value}
    (h : rdBuild P t (parts P tm ps.toList) = some v) (w : World) : ∃ v', VR φ v v' ∧ (execOp ρ o).run P w = .ok (.value v') w := by
  unfold rdBuild at h
  obtain ⟨vs, h1, h⟩ := optK_inv h
  obtain ⟨z, hz, h⟩ := optK_inv h
  obtain ⟨cs, hb, h⟩ := optK_inv h
  rw [valF_eq] at h
  cases h
  have hp : PR φ vs (ps.toList.map fun p => (p.1, ρ p.2)) := parts_PR ps.toList vs (fun p hp => hE p.2 (by
    rw [ho]
    show p.2 ∈ ((ps.toList.map (·.2)).toArray).toList
    simp only [List.toList_toArray]
    exact List.mem_map.2 ⟨p, hp, rfl⟩)) h1
  obtain ⟨r', h2, h3⟩ := built_PR hz hp hb
  refine ⟨.agg r', h3.agg, ?_⟩
  have h4 : P.built t (ps.map fun (i, x) => (i, ρ x)).toList = some r' := by rw [Array.toList_map]; exact h2
  simp [execOp, ho, run_build w t _ r' h4]

theorem rd_iface {t : TypeId} {x : Operand} (ho : o.op = .makeInterface t x) (hE : ∀ v, eva P tm x = some v → VR φ v (ρ x)) {v : Value}
    (h : rdIface P t (eva P tm x) = some v) (w : World) : ∃ v', VR φ v v' ∧ (execOp ρ o).run P w = .ok (.value v') w := by
  unfold rdIface at h
  split at h
  · cases h
  · rename_i d hn hu
    obtain ⟨u, h1, h2⟩ := optK_inv h
    cases h2
    refine ⟨_, .iface (t := t) (hE u h1), ?_⟩
    simp only [execOp, ho, Instr.makeInterface, Sem.run_bind, run_und hu, Result.andThen_ok]
    rfl
  · cases h

theorem run_len {c : Call} (hc : c.callee = .builtin .len) (ho : o.op = .call c) (w : World) {v : Value}
    (h : (Builtin.len_ c.argTypes o.type (c.args.map ρ)).run P w = .ok v w) : (execOp ρ o).run P w = .ok (.value v) w := by
  simp [execOp, ho, resolve, hc, invoke, builtin, h]

theorem bltV_inv {b : Builtin} {ts : Array TypeId} {ty : TypeId} {vs : Option (List Value)} {v : Value} (h : bltV P b ts ty vs = some v) : ∃ l, vs = some l ∧ l.all flat = true ∧ flat v = true ∧ ∀ w, (builtin b ts ty #[] ⟨l⟩).run P w = .ok (.value v) w := by
  unfold bltV at h
  obtain ⟨l, h1, h⟩ := optK_inv h
  obtain ⟨h2, h⟩ := bif_inv h
  obtain ⟨h3, h4⟩ := nextV_inv h
  exact ⟨l, h1, h2, h4, fun w => pureRun_run P _ _ h3 w⟩

theorem evs_LR : ∀ (l : List Operand) (vs : List Value), EvR P φ tm ρ l → evs P tm l = some vs → LR φ vs (l.map ρ)
  | [], vs, _, h => by cases h; exact .nil
  | x :: l, vs, hE, h => by
    unfold evs at h
    split at h
    · cases h
    · rename_i v hv
      split at h
      · cases h
      · rename_i us hus
        cases h
        exact .cons (hE x (by simp) v hv) (evs_LR l us (fun y hy => hE y (by simp [hy])) hus)

theorem rd_blt {c : Call} {b : Builtin} (hb : b = .len ∨ b = .max ∨ b = .min) (hc : c.callee = .builtin b) (ho : o.op = .call c) (hE : EvR P φ tm ρ c.args.toList) {v : Value}
    (h : bltV P b c.argTypes o.type (evs P tm c.args.toList) = some v) (w : World) : ∃ v', VR φ v v' ∧ (execOp ρ o).run P w = .ok (.value v') w := by
  obtain ⟨l, h1, h2, h3, h4⟩ := bltV_inv h
  have hLR := evs_LR _ _ hE h1
  have e1 : c.args.toList.map ρ = l := by
    refine List.ext_getElem? fun i => ?_
    by_cases hi : i < l.length
    · have h5 := List.getElem?_eq_getElem hi
      have h6 := List.getElem?_eq_getElem (hLR.len ▸ hi : i < (c.args.toList.map ρ).length)
      rw [h5, h6, (hLR.at_ i _ _ h5 h6).eq_of_flat (List.all_eq_true.1 h2 _ (List.getElem_mem hi))]
    · rw [List.getElem?_eq_none (by have := hLR.len; omega), List.getElem?_eq_none (by omega)]
  have e2 : c.args.map ρ = ⟨l⟩ := Array.ext' (by simpa using e1)
  refine ⟨v, .flat v h3, ?_⟩
  have h5 := h4 w
  simp only [execOp, ho, resolve, hc, Sem.run_bind, Sem.run_pure, Result.andThen_ok, invoke, e2]
  rcases hb with rfl | rfl | rfl <;> exact h5

theorem rd_len {c : Call} (hc : c.callee = .builtin .len) (ho : o.op = .call c) (hE : EvR P φ tm ρ o.op.operands.toList) {v : Value}
    (h : rdLen P c.argTypes o.type (evs P tm c.args.toList) = some v) (w : World) : ∃ v', VR φ v v' ∧ (execOp ρ o).run P w = .ok (.value v') w := by
  have hE' : EvR P φ tm ρ c.args.toList := fun x hx v hv => hE x (by rw [ho]; simp [Op.operands, Call.operands, hc]; simpa using hx) v hv
  have one : ∀ {y : Value}, evs P tm c.args.toList = some [y] → ∃ y', c.args.map ρ = #[y'] ∧ VR φ y y' := by
    intro y hy
    have hLR := evs_LR _ _ hE' hy
    obtain ⟨y', m, hm, h1, h2⟩ := hLR.inv
    have := h2.nil_inv
    subst this
    exact ⟨y', Array.ext' (by rw [Array.toList_map]; exact hm), h1⟩
  have slc : ∀ {a : Option Addr} {n cp : Nat}, c.args.map ρ = #[.slice a n cp] → isSliceT P c.argTypes[0]? = true → (execOp ρ o).run P w = .ok (.value (.int .i64 n)) w := by
    intro a n cp ha h1
    unfold isSliceT at h1
    split at h1
    · rename_i t ht
      split at h1
      · rename_i e he
        refine run_len hc ho w ?_
        have hu := run_und he
        simp [Builtin.len_, ht, ha, hu, goInt]
      · cases h1
    · cases h1
  unfold rdLen at h
  split at h
  · rename_i a n cp hv
    obtain ⟨h1, h2⟩ := bif_inv h
    cases h2
    obtain ⟨b, off, s⟩ := a
    obtain ⟨y', ha, hy⟩ := one hv
    obtain ⟨en, c', h5, _, rfl, _⟩ := hy.slice_inv
    exact ⟨_, .flat _ rfl, slc ha h1⟩
  · rename_i y _ hv
    cases hr : isRowV y with
    | true =>
      rw [hr] at h
      obtain ⟨s, es, rfl, h1⟩ := rowVK_inv (show rowVK y (fun _ es => bif isSliceT P c.argTypes[0]? then some (Value.int .i64 (.ofNat es.length)) else none) none = some v from h)
      obtain ⟨h2, h3⟩ := bif_inv h1
      cases h3
      obtain ⟨y', ha, hy⟩ := one hv
      refine ⟨.int .i64 (.ofNat es.length), .flat _ rfl, ?_⟩
      rcases hy.row_inv with ⟨rfl, rfl | ⟨_, _, rfl⟩⟩ | ⟨_, _, _, _, _, _, _, _, _, _, _, rfl⟩
      · exact slc ha h2
      · exact slc ha h2
      · exact slc ha h2
    | false =>
      rw [hr] at h
      rw [← hv] at h
      exact rd_blt (.inl rfl) hc ho hE' h w
  · cases h

/-- The same of values of the model's. -/
def nilCmpM (d : TypeDesc) (x y : Value) : Option Bool := match d, x, y with
  | .pointer _, .pointer (some _), .pointer none => some false
  | .pointer _, .pointer none, .pointer (some _) => some false
  | .slice _, .slice (some _) _ _, .slice none _ _ => some false
  | .slice _, .slice none _ _, .slice (some _) _ _ => some false
  | .map _ _, .map (some _), .map none => some false
  | .map _ _, .map none, .map (some _) => some false
  | .interface _, .iface _ _, .nilIface => some false
  | .interface _, .nilIface, .iface _ _ => some false
  | _, _, _ => none

theorem nilCmp_VR {d : TypeDesc} {a b a' b' : Value} {r : Bool} (h : nilCmp d a b = some r) (ha : VR φ a a') (hb : VR φ b b') : nilCmpM d a' b' = some r := by
  unfold nilCmp at h
  split at h
  · rename_i x; obtain ⟨k, o, s⟩ := x; obtain ⟨e, _, _, rfl⟩ := ha.ptr_inv; rw [hb.eq_of_flat rfl]; exact h
  · rename_i x; obtain ⟨k, o, s⟩ := x; obtain ⟨e, _, _, rfl⟩ := hb.ptr_inv; rw [ha.eq_of_flat rfl]; exact h
  · rename_i x _ _ _ _; obtain ⟨k, o, s⟩ := x; obtain ⟨e, c', _, _, rfl, _⟩ := ha.slice_inv; rw [hb.eq_of_flat rfl]; exact h
  · rename_i _ _ x _ _; obtain ⟨k, o, s⟩ := x; obtain ⟨e, c', _, _, rfl, _⟩ := hb.slice_inv; rw [ha.eq_of_flat rfl]; exact h
  · obtain ⟨e, _, rfl⟩ := ha.map_inv; rw [hb.eq_of_flat rfl]; exact h
  · obtain ⟨e, _, rfl⟩ := hb.map_inv; rw [ha.eq_of_flat rfl]; exact h
  · obtain ⟨u, rfl, _⟩ := ha.iface_inv; rw [hb.eq_of_flat rfl]; exact h
  · obtain ⟨u, rfl, _⟩ := hb.iface_inv; rw [ha.eq_of_flat rfl]; exact h
  · obtain ⟨k, o, e, c, _, _, _, _, rfl⟩ := ha.ep_inv; rw [hb.eq_of_flat rfl]; exact h
  · obtain ⟨k, o, e, c, _, _, _, _, rfl⟩ := hb.ep_inv; rw [ha.eq_of_flat rfl]; exact h
  · rename_i q _ _ _
    rcases VR.row_inv (show VR φ (rowV _ _) a' from ha) with ⟨q, _⟩ | ⟨k, o, c', e, c, _, _, _, _, _, _, rfl⟩
    · cases q
    · rw [hb.eq_of_flat rfl]; exact h
  · rcases VR.row_inv (show VR φ (rowV _ _) b' from hb) with ⟨q, _⟩ | ⟨k, o, c', e, c, _, _, _, _, _, _, rfl⟩
    · cases q
    · rw [ha.eq_of_flat rfl]; exact h
  · cases h

theorem run_equalIn {t : TypeId} {d : TypeDesc} (hu : P.underlying t = some d) {a b : Value} {r : Bool} (h : nilCmpM d a b = some r) (n : Nat) (w : World) :
    (Op.equalIn (n + 1) t a b).run P w = .ok r w := by
  have hq := run_und hu w
  unfold nilCmpM at h
  split at h <;> (try (cases h; done)) <;> cases h <;> simp only [Op.equalIn, Sem.run_bind, hq, Result.andThen_ok] <;> rfl

theorem run_nilCmp {t : TypeId} {d : TypeDesc} (hu : P.underlying t = some d) {a b : Value} {r : Bool} (h : nilCmpM d a b = some r) (w : World) :
    (∀ op x y, (eqGuard op t x y a b).run P w = .ok () w) ∧ (binOp .eql t a b).run P w = .ok (.bool r) w ∧ (binOp .neq t a b).run P w = .ok (.bool (!r)) w := by
  have h1 : (Op.equal t a b).run P w = .ok r w := run_equalIn hu h 9999 w
  have e1 : binOp .eql t a b = (do pure (.bool (← Op.equal t a b))) := by
    unfold nilCmpM at h
    split at h <;> first | rfl | cases h
  have e2 : binOp .neq t a b = (do pure (.bool (!(← Op.equal t a b)))) := by
    unfold nilCmpM at h
    split at h <;> first | rfl | cases h
  refine ⟨fun op x y => ?_, ?_, ?_⟩
  · unfold nilCmpM at h
    split at h <;> first | (cases h; done) | (cases op <;> rfl)
  · rw [e1, Sem.run_bind, h1]; rfl
  · rw [e2, Sem.run_bind, h1]; rfl

theorem rd_cmp {op : BinOp} {t yt : TypeId} {x y : Operand} (ho : o.op = .binOp op t x y yt) {a b v : Value} (ha : VR φ a (ρ x)) (hb : VR φ b (ρ y))
    (h : rdCmp P op t a b = some v) (w : World) : ∃ v', VR φ v v' ∧ (execOp ρ o).run P w = .ok (.value v') w := by
  unfold rdCmp at h
  split at h
  · rename_i d hu
    split at h
    · rename_i r hr
      obtain ⟨h2, h3, h4⟩ := run_nilCmp hu (nilCmp_VR hr ha hb) w
      split at h
      · cases h
        refine ⟨_, .flat _ rfl, ?_⟩
        simp only [execOp, ho, Sem.run_bind, h2, Result.andThen_ok, h3]
        rfl
      · cases h
        refine ⟨_, .flat _ rfl, ?_⟩
        simp only [execOp, ho, Sem.run_bind, h2, Result.andThen_ok, h4]
        rfl
      · cases h
    · cases h
  · cases h

theorem isCells_inv {b : Nat} (h : isCells H b = true) : ∃ n t el, hp H b = some (.cells n t el) := by
  unfold isCells at h
  unfold hp
  cases hg : H.get (bits b) with
  | none => rw [hg] at h; cases h
  | some ob =>
    rw [hg] at h
    cases ob with
    | cells n t el => exact ⟨n, t, el, rfl⟩
    | _ => cases h

theorem run_noView {a : Addr} {c : Array Value} {el : TypeId} {fz : Nat × Nat} (h : w.heap[a.block]? = some (.cells c el fz)) : (noView a).run P w = .ok () w := by
  simp [noView, viewAt, World.shape?, h]
theorem run_sameAddr {a b : Addr} {c c' : Array Value} {el el' : TypeId} (ha : w.heap[a.block]? = some (.cells c el (0, 0))) (hb : w.heap[b.block]? = some (.cells c' el' (0, 0))) :
    (sameAddr a b).run P w = .ok (a == b) w := by
  have fa : ∀ o, w.frozen? { block := a.block, off := o } = false := fun o => frozen_of_row w a.block o c el ha
  have fa' : w.frozen? a = false := by simp [World.frozen?, ha]
  have fb' : w.frozen? b = false := by simp [World.frozen?, hb]
  have fb : ∀ o, w.frozen? { block := b.block, off := o } = false := fun o => frozen_of_row w b.block o c' el' hb
  unfold sameAddr
  cases hbl : a.block == b.block with
  | true => simp
  | false =>
    have hne : (a == b) = false := by
      cases hab : a == b with
      | false => rfl
      | true =>
        have : a = b := by simpa using hab
        rw [this] at hbl
        simp at hbl
    simp [fa', run_noView ha, run_noView hb, mayBeOne, stringish, World.shape?, ha, hb, fa, fb, fb', hne]

theorem run_ptrEq {t e : TypeId} {z : Nat} (hu : P.underlying t = some (.pointer e)) (hz : szOf P e = some (z + 1)) {a b : Addr} {c c' : Array Value} {el el' : TypeId}
    (ha : w.heap[a.block]? = some (.cells c el (0, 0))) (hb : w.heap[b.block]? = some (.cells c' el' (0, 0))) :
    (∀ op x y, (eqGuard op t x y (.pointer (some a)) (.pointer (some b))).run P w = .ok () w) ∧ (binOp .eql t (.pointer (some a)) (.pointer (some b))).run P w = .ok (.bool (a == b)) w ∧
      (binOp .neq t (.pointer (some a)) (.pointer (some b))).run P w = .ok (.bool (!(a == b))) w := by
  have hs := run_sameAddr (P := P) ha hb
  have h0 : ∀ n, (Op.equalIn (n + 1) t (.pointer (some a)) (.pointer (some b))).run P w = .ok (a == b) w := fun n => by
    simp only [Op.equalIn, Sem.run_bind, run_und hu, Result.andThen_ok, run_size hz]
    rw [if_pos (by omega)]
    exact hs
  have h1 : (Op.equal t (.pointer (some a)) (.pointer (some b))).run P w = .ok (a == b) w := h0 9999
  have e1 : binOp .eql t (.pointer (some a)) (.pointer (some b)) = (do pure (.bool (← Op.equal t (.pointer (some a)) (.pointer (some b))))) := rfl
  have e2 : binOp .neq t (.pointer (some a)) (.pointer (some b)) = (do pure (.bool (!(← Op.equal t (.pointer (some a)) (.pointer (some b)))))) := rfl
  refine ⟨fun op x y => by cases op <;> rfl, ?_, ?_⟩
  · rw [e1, Sem.run_bind, h1]; rfl
  · rw [e2, Sem.run_bind, h1]; rfl

theorem rd_ptr (hH : HR P W φ (hp H) w) {op : BinOp} {t yt : TypeId} {x y : Operand} (ho : o.op = .binOp op t x y yt) {a b v : Value} (ha : VR φ a (ρ x)) (hb : VR φ b (ρ y))
    (h : rdPtr P H op t a b = some v) : ∃ v', VR φ v v' ∧ (execOp ρ o).run P w = .ok (.value v') w := by
  unfold rdPtr at h
  split at h
  · rename_i e xa i ya j hu
    split at h
    · rename_i z hz
      obtain ⟨hc, h⟩ := bif_inv h
      simp only [Bool.and_eq_true] at hc
      obtain ⟨n, tr, el, hgx⟩ := isCells_inv hc.1
      obtain ⟨n', tr', el', hgy⟩ := isCells_inv hc.2
      obtain ⟨ex, hx1, _, hx2⟩ := ha.ptr_inv
      obtain ⟨ey, hy1, _, hy2⟩ := hb.ptr_inv
      obtain ⟨cx, elx, hrx, _⟩ := hH.cells hgx hx1
      obtain ⟨cy, ely, hry, _⟩ := hH.cells hgy hy1
      have hbeq : ((⟨ex.r, i, none⟩ : Addr) == ⟨ey.r, j, none⟩) = (Nat.beq xa ya && Nat.beq i j) := by
        rw [Bool.eq_iff_iff]
        simp only [beq_iff_eq, Bool.and_eq_true]
        constructor
        · intro q
          injection q with q1 q2
          have := hH.inj xa ya _ _ ex ey hx1 hy1 hgx hgy rfl rfl q1
          exact ⟨by subst this; exact Nat.beq_refl _, by subst q2; exact Nat.beq_refl _⟩
        · rintro ⟨q1, q2⟩
          have q1 := beq_eq q1
          have q2 := beq_eq q2
          subst q1 q2
          rw [hx1] at hy1
          cases hy1
          rfl
      obtain ⟨g1, g2, g3⟩ := run_ptrEq (P := P) (w := w) hu hz (a := ⟨ex.r, i, none⟩) (b := ⟨ey.r, j, none⟩) hrx hry
      rw [hbeq] at g2 g3
      split at h
      · cases h
        exact ⟨_, .flat _ rfl, by simp only [execOp, ho, hx2, hy2, Sem.run_bind, g1, Result.andThen_ok, g2]; rfl⟩
      · cases h
        exact ⟨_, .flat _ rfl, by simp only [execOp, ho, hx2, hy2, Sem.run_bind, g1, Result.andThen_ok, g3]; rfl⟩
      · cases h
    · cases h
  · exact rd_cmp ho ha hb h w

theorem eqGuard_K {op : BinOp} {t : TypeId} {x y : Operand} {a b : Value} (h : ((isK x || isK y) || !(isNI a && isNI b)) = true) : eqGuard op t x y a b = eqGuard op t kOp kOp a b := by
  cases ha : isNI a && isNI b with
  | false => cases a <;> cases b <;> first | rfl | cases ha
  | true =>
    rw [ha] at h
    have hk : (isK x || isK y) = true := by simpa using h
    simp only [Bool.and_eq_true] at ha
    have e1 : a = .nilIface := by cases a <;> first | rfl | (cases ha.1; done)
    have e2 : b = .nilIface := by cases b <;> first | rfl | (cases ha.2; done)
    subst e1 e2
    cases x <;> cases y <;> first | rfl | (simp [isK] at hk; done)

theorem cellEq_sound {k : Nat} {t : TypeId} (ht : scalK P t = some k) {v u : Value} {r : Bool} (h : cellEq k v u = some r) (d : Nat) : (Op.equalIn (d + 1) t v u).run P w = .ok r w ∧ (∀ {φ : Phi} {v' : Value}, VR φ v v' → v' = v) ∧ (∀ {φ : Phi} {v' : Value}, VR φ u v' → v' = u) := by
  unfold scalK at ht
  unfold cellEq at h
  split at h
  · obtain ⟨hk, h9⟩ := bif_inv h
    have hk := of_decide_eq_true hk
    cases h9
    clear h
    subst hk
    split at ht
    · rename_i q; exact ⟨run_equalIn_int w d t _ _ _ _ q, fun h => h.eq_of_flat rfl, fun h => h.eq_of_flat rfl⟩
    · cases ht
    · cases ht
    · cases ht
  · cases h
    split at ht
    · cases ht
    · rename_i q; exact ⟨run_equalIn_string w d t _ _ q, fun h => h.eq_of_flat rfl, fun h => h.eq_of_flat rfl⟩
    · cases ht
    · cases ht
  · cases h
    split at ht
    · cases ht
    · cases ht
    · rename_i q; exact ⟨run_equalIn_bool' w d t _ _ q, fun h => h.eq_of_flat rfl, fun h => h.eq_of_flat rfl⟩
    · cases ht
  · cases h
theorem scalK_agg {t : TypeId} {k : Nat} (hs : scalK P t = some k) : aggQ P t = some false := by
  unfold scalK at hs
  unfold aggQ
  split at hs <;> simp_all

theorem run_eqFields {xs ys : Array Value} (d : Nat) : ∀ (fs : List Field) (i : Nat) (ks : List Nat) (l m : List Value) (r : Bool), fieldsK P fs i = some ks → aggEq ks l m = some r → LR φ l (xs.toList.drop i) → LR φ m (ys.toList.drop i) →
    (Op.eqFields (d + 1) xs ys fs).run P w = .ok r w
  | [], i, ks, l, m, r, hf, h, _, _ => by
    cases hf
    cases l <;> cases m <;> simp [aggEq] at h
    subst h
    rfl
  | f :: fs, i, ks, l, m, r, hf, h, hx, hy => by
    obtain ⟨h1, h2⟩ := bif_inv (show (bif !(f.name == "_") && Nat.beq f.offset i then optK (scalK P f.type) (fun k => optK (fieldsK P fs (i + 1)) (fun ks => some (k :: ks)) none) none else none) = some ks from hf)
    simp only [Bool.and_eq_true, Bool.not_eq_true'] at h1
    have ho := beq_eq h1.2
    have hn : f.name ≠ "_" := by simpa using h1.1
    obtain ⟨k, hk, h3⟩ := optK_inv h2
    obtain ⟨ks', hks, h4⟩ := optK_inv h3
    cases h4
    clear hf h2 h3
    cases l with
    | nil => simp [aggEq] at h
    | cons a l' =>
    cases m with
    | nil => simp [aggEq] at h
    | cons b m' =>
      obtain ⟨r1, hc, h5⟩ := optK_inv (show optK (cellEq k a b) (fun r => optK (aggEq ks' l' m') (fun r' => some (r && r')) none) none = some r from h)
      obtain ⟨r2, hr, h6⟩ := optK_inv h5
      cases h6
      obtain ⟨a', x', hxe, ha', hx'⟩ := hx.inv
      obtain ⟨b', y', hye, hb', hy'⟩ := hy.inv
      obtain ⟨g1, g2, g3⟩ := cellEq_sound (w := w) hk hc d
      have ea := g2 ha'
      have eb := g3 hb'
      subst ea eb
      have gx : xs[f.offset]? = some a' := by
        have := congrArg (·[0]?) hxe; simpa [List.getElem?_drop, ho] using this
      have gy : ys[f.offset]? = some b' := by
        have := congrArg (·[0]?) hye; simpa [List.getElem?_drop, ho] using this
      have hp : ∀ {zs : Array Value} {v : Value}, zs[f.offset]? = some v → (part f.type zs f.offset).run P w = .ok v w := fun h => by simp [part, run_isAgg (scalK_agg hk), h]
      have ih := run_eqFields d fs (i + 1) ks' l' m' r2 hks hr (by rw [← List.drop_drop, hxe]; exact hx') (by rw [← List.drop_drop, hye]; exact hy')
      simp only [Op.eqFields, if_pos hn, Sem.run_bind, hp gx, hp gy, Result.andThen_ok, g1]
      cases r1 with
      | true => simpa using ih
      | false => rfl

theorem rd_agg {op : BinOp} {t yt : TypeId} {x y : Operand} (ho : o.op = .binOp op t x y yt) {l m : List Value} (ha : VR φ (.agg ⟨l⟩) (ρ x)) (hb : VR φ (.agg ⟨m⟩) (ρ y)) {ks : List Nat} (hk : plainK P t = some ks) {v : Value}
    (h : optK (aggEq ks l m) (eqB op) none = some v) (w : World) : ∃ v', VR φ v v' ∧ (execOp ρ o).run P w = .ok (.value v') w := by
  obtain ⟨r, hr, h⟩ := optK_inv h
  obtain ⟨xs, hx, hxl⟩ := ha.agg_inv
  obtain ⟨ys, hy, hyl⟩ := hb.agg_inv
  unfold plainK at hk
  split at hk
  case h_2 => cases hk
  rename_i fs hu
  obtain ⟨h1, h2⟩ := bif_inv hk
  simp only [Bool.and_eq_true, Bool.not_eq_true'] at h1
  have hfo : P.fieldsOf t = fs := by unfold Program.fieldsOf; rw [hu]
  have heq : (Op.equalIn 10000 t (.agg xs) (.agg ys)).run P w = .ok r w := by
    rw [run_equalIn_agg w 9999 t xs ys (by rw [hfo]; exact hu) h1.1, hfo]
    exact run_eqFields 9998 fs.toList 0 ks l m r h2 hr (by simpa using hxl) (by simpa using hyl)
  have hg := run_eqGuard_agg w op t x y xs ys h1.2
  unfold eqB at h
  split at h
  · cases h
    refine ⟨.bool r, .flat _ rfl, ?_⟩
    simp only [execOp, ho, hx, hy, Sem.run_bind, hg, Result.andThen_ok, run_eql_struct, heq]
    rfl
  · cases h
    refine ⟨.bool (!r), .flat _ rfl, ?_⟩
    simp only [execOp, ho, hx, hy, Sem.run_bind, hg, Result.andThen_ok, run_neq_struct, heq]
    rfl
  · cases h

theorem rd_bin2 (hH : HR P W φ (hp H) w) {op : BinOp} {t yt : TypeId} {x y : Operand} (ho : o.op = .binOp op t x y yt) {a b : Value} (hea : VR φ a (ρ x)) (heb : VR φ b (ρ y)) {v : Value}
    (h : rdBin2 P H op t (isK x || isK y) a b = some v) : ∃ v', VR φ v v' ∧ (execOp ρ o).run P w = .ok (.value v') w := by
  unfold rdBin2 at h
  cases hf : flat a && flat b with
  | false =>
    rw [hf] at h
    exact rd_ptr hH ho hea heb h
  | true =>
    rw [hf] at h
    simp only [Bool.and_eq_true] at hf
    obtain ⟨hk, h⟩ := bif_inv (show (bif (isK x || isK y) || !(isNI a && isNI b) then binV P op t a b else none) = some v from h)
    obtain ⟨h3, h4⟩ := fV_inv h
    have e1 := hea.eq_of_flat hf.1
    have e2 := heb.eq_of_flat hf.2
    refine ⟨v, .flat v h3, ?_⟩
    have h5 := h4 w
    simp only [execOp, ho, e1, e2, eqGuard_K hk, Sem.run_bind] at h5 ⊢
    rw [h5]
    rfl

theorem rd_bin (hH : HR P W φ (hp H) w) {op : BinOp} {t yt : TypeId} {x y : Operand} (ho : o.op = .binOp op t x y yt) (hE : EvR P φ tm ρ o.op.operands.toList) {v : Value}
    (h : rdBin P H op t (isK x || isK y) (eva P tm x) (eva P tm y) = some v) : ∃ v', VR φ v v' ∧ (execOp ρ o).run P w = .ok (.value v') w := by
  unfold rdBin at h
  obtain ⟨a, ha, h⟩ := optK_inv h
  obtain ⟨b, hb, h⟩ := optK_inv h
  have hops : o.op.operands.toList = [x, y] := by rw [ho]; rfl
  have hea := hE x (by simp [hops]) a ha
  have heb := hE y (by simp [hops]) b hb
  unfold rdBin1 at h
  split at h
  · unfold rdAgg at h
    split at h
    · rename_i ks hk; exact rd_agg ho hea heb hk h w
    · exact rd_bin2 hH ho hea heb h
  · exact rd_bin2 hH ho hea heb h

/-! closures, assertions, maps, texts -/
theorem rd_func {fn : Fn} {first cap : Array Operand} (ho : o.op = .makeFunc fn first cap) (hE : EvR P φ tm ρ o.op.operands.toList) {v : Value}
    (h : rdFunc fn first.toList (evs P tm cap.toList) = some v) (w : World) : ∃ v', VR φ v v' ∧ (execOp ρ o).run P w = .ok (.value v') w := by
  unfold rdFunc at h
  split at h
  · rename_i g hf
    obtain ⟨l, hl, h⟩ := optK_inv h
    cases h
    have hf' : first = #[] := by
      have : first.toList.toArray = #[] := by rw [hf]
      simpa using this
    subst hf'
    have hLR := evs_LR cap.toList l (fun x hx => hE x (by rw [ho]; simpa [Op.operands] using hx)) hl
    refine ⟨.func (.func g) #[] ⟨cap.toList.map ρ⟩, VR.func hLR.len hLR.at_, ?_⟩
    have e : cap.map ρ = ⟨cap.toList.map ρ⟩ := Array.ext' (by simp)
    simp [execOp, ho, Instr.makeFunc, e]
  · cases h

theorem zeroF_inv {t : TypeId} {z : Value} (h : zeroF P t = some z) : (∀ w, (zeroValue t).run P w = .ok z w) ∧ flat z = true := by
  unfold zeroF at h
  split at h
  · rename_i i hi
    split at h
    · rename_i z' hz
      obtain ⟨h1, h2⟩ := bif_inv h
      cases h2
      exact ⟨fun w => by simp [zeroValue, typeInfo, hi, hz], h1⟩
    · cases h
  · cases h
theorem okV_VR {ok b : Bool} {v v' : Value} (h : VR φ v v') : VR φ (okV ok v b) (if ok then .tuple #[v', .bool b] else v') := by
  cases ok with
  | false => exact h
  | true => exact (LR.cons h (LR.cons (.flat (.bool b) rfl) LR.nil)).tuple

theorem run_assert {t : TypeId} {d : TypeDesc} (hu : P.underlying t = some d) (hn : ∀ ms, d = .interface ms → False) (xt : TypeId) (ok : Bool) (w : World) :
    (∀ v, (Instr.typeAssert (.iface t v) xt t ok).run P w = .ok (if ok then .tuple #[v, .bool true] else v) w) ∧
    (∀ u v z, u ≠ t → (zeroValue t).run P w = .ok z w → (Instr.typeAssert (.iface u v) xt t true).run P w = .ok (.tuple #[z, .bool false]) w) ∧
    (∀ z, (zeroValue t).run P w = .ok z w → (Instr.typeAssert .nilIface xt t true).run P w = .ok (.tuple #[z, .bool false]) w) := by
  cases d with
  | interface ms => exact absurd rfl (hn ms)
  | _ =>
    refine ⟨fun v => ?_, fun u v z hne hz => ?_, fun z hz => ?_⟩
    · simp only [Instr.typeAssert, Sem.run_bind, run_und hu, Result.andThen_ok]
      simp
    · simp only [Instr.typeAssert, Sem.run_bind, run_und hu, Result.andThen_ok]
      simp [hne, hz]
    · simp only [Instr.typeAssert, Sem.run_bind, run_und hu, Result.andThen_ok]
      simp [hz]

theorem rd_assert {x : Operand} {xt t : TypeId} {ok : Bool} (ho : o.op = .typeAssert x xt t ok) (hE : ∀ v, eva P tm x = some v → VR φ v (ρ x)) {v : Value}
    (h : rdAssert P (eva P tm x) t ok = some v) (w : World) : ∃ v', VR φ v v' ∧ (execOp ρ o).run P w = .ok (.value v') w := by
  unfold rdAssert at h
  obtain ⟨hni, h⟩ := bif_inv h
  unfold notIface at hni
  split at hni
  · cases hni
  · rename_i d hn hu
    obtain ⟨r1, r2, r3⟩ := run_assert hu hn xt ok w
    split at h
    · rename_i u y hx
      obtain ⟨y', hy, hyy⟩ := (hE _ hx).iface_inv
      cases hb : Nat.beq u t with
      | true =>
        rw [hb] at h
        have h : some (okV ok y true) = some v := h
        cases h
        have := beq_eq hb
        subst this
        exact ⟨_, okV_VR (b := true) hyy, by simp only [execOp, ho, hy, Sem.run_bind, r1, Result.andThen_ok]; rfl⟩
      | false =>
        rw [hb] at h
        obtain ⟨hok, h⟩ := bif_inv (show (bif ok then optK (zeroF P t) (fun z => some (Value.tuple #[z, .bool false])) none else none) = some v from h)
        subst hok
        obtain ⟨z, hz, h⟩ := optK_inv h
        cases h
        obtain ⟨hz1, hz2⟩ := zeroF_inv hz
        have hne : u ≠ t := fun q => by rw [q] at hb; exact absurd (Nat.beq_refl t) (by rw [hb]; decide)
        exact ⟨.tuple #[z, .bool false], (LR.cons (.flat z hz2) (LR.cons (.flat (.bool false) rfl) LR.nil)).tuple, by simp only [execOp, ho, hy, Sem.run_bind, r2 u y' z hne (hz1 w), Result.andThen_ok]; rfl⟩
    · rename_i hx
      have hy := (hE _ hx).eq_of_flat rfl
      obtain ⟨hok, h⟩ := bif_inv h
      subst hok
      obtain ⟨z, hz, h⟩ := optK_inv h
      cases h
      obtain ⟨hz1, hz2⟩ := zeroF_inv hz
      exact ⟨.tuple #[z, .bool false], (LR.cons (.flat z hz2) (LR.cons (.flat (.bool false) rfl) LR.nil)).tuple, by simp only [execOp, ho, hy, Sem.run_bind, r3 z (hz1 w), Result.andThen_ok]; rfl⟩
    · cases h
  · cases hni

theorem keyKind_cases {d : TypeDesc} (h : keyKind d = true) : (∃ k, d = .int k) ∨ d = .string ∨ d = .bool := by
  cases d <;> first | (cases h; done) | simp
theorem run_checkKey {b : Bool} {t : TypeId} {d : TypeDesc} (hu : P.underlying t = some d) (hd : keyKind d = true) (v : Value) (w : World) : (Instr.checkKey b 10000 t v).run P w = .ok () w := by
  have h : ∀ n, (Instr.checkKey b (n + 1) t v).run P w = .ok () w := fun n => by
    rcases keyKind_cases hd with ⟨k, rfl⟩ | rfl | rfl <;> simp only [Instr.checkKey, Sem.run_bind, run_und hu, Result.andThen_ok] <;> rfl
  exact h 9999

theorem sameNow_VR {d : TypeDesc} {k k' a a' : Value} {b : Bool} (hk : VR φ k k') (ha : VR φ a a') (h : Instr.sameNow d k a = some b) : Instr.sameNow d k' a' = some b := by
  unfold Instr.sameNow at h
  split at h
  · rw [hk.eq_of_flat rfl, ha.eq_of_flat rfl]; exact h
  · rw [hk.eq_of_flat rfl, ha.eq_of_flat rfl]; exact h
  · rw [hk.eq_of_flat rfl, ha.eq_of_flat rfl]; exact h
  · cases h

/-- What is found. -/
inductive FR (φ : Phi) : Option (Nat × Value) → Option (Nat × Value) → Prop
  | none : FR φ none none
  | some {i : Nat} {v v' : Value} (h : VR φ v v') : FR φ (some (i, v)) (some (i, v'))
theorem findNow_VR {d : TypeDesc} {k k' : Value} (hk : VR φ k k') {l l' : List MapEntry} (h : MLR φ l l') : ∀ (i : Nat) (r : Option (Nat × Value)), Instr.findNow d k l i = some r →
    ∃ r', Instr.findNow d k' l' i = some r' ∧ FR φ r r' := by
  induction h with
  | nil => intro i r h; cases h; exact ⟨none, rfl, .none⟩
  | @cons e e' l l' he _ ih =>
    intro i r h
    unfold Instr.findNow at h ⊢
    cases hs : Instr.sameNow d k e.key with
    | none => rw [hs] at h; cases h
    | some b =>
      rw [hs] at h
      rw [sameNow_VR hk he.key hs]
      cases b with
      | true => cases h; exact ⟨_, rfl, .some he.val⟩
      | false => exact ih (i + 1) r h

theorem run_findKey {t : TypeId} {d : TypeDesc} (hu : P.underlying t = some d) {k : Value} {es : List MapEntry} {r : Option (Nat × Value)} (h : Instr.findNow d k es 0 = some r) (w : World) :
    (Instr.findKey t k es).run P w = .ok r w := by
  simp only [Instr.findKey, Sem.run_bind, run_und hu, Result.andThen_ok, h]
  rfl

theorem mapTK_inv {β : Type} {t : TypeId} {k : TypeDesc → TypeId → Option β} {y : β} (h : mapTK P t k none = some y) :
    ∃ kt et d, P.underlying t = some (.map kt et) ∧ P.underlying kt = some d ∧ keyKind d = true ∧ k d et = some y := by
  unfold mapTK at h
  split at h
  · rename_i kt et hu
    obtain ⟨d, h1, h2⟩ := optK_inv h
    obtain ⟨h3, h4⟩ := bif_inv h2
    exact ⟨kt, et, d, hu, h1, h3, h4⟩
  · cases h

theorem esOf_sound (hH : HR P W φ (hp H) w) {m m' : Value} (hm : VR φ m m') {es : List MapEntry} (h : esOf H (some m) = some es) :
    ∃ es' : Array MapEntry, MLR φ es es'.toList ∧ ((m' = .map none ∧ es' = #[]) ∨ ∃ r c, m' = .map (some r) ∧ w.heap[r]? = some (.map es' c)) := by
  unfold esOf at h
  split at h
  · rename_i q
    cases q
    cases h
    exact ⟨#[], .nil, .inl ⟨hm.eq_of_flat rfl, rfl⟩⟩
  · rename_i b q
    cases q
    obtain ⟨e, hb, rfl⟩ := hm.map_inv
    cases hg : H.get (bits b) with
    | none => rw [hg] at h; cases h
    | some ob =>
      rw [hg] at h
      cases ob with
      | map es1 c =>
        cases h
        obtain ⟨_, es', h2, h3⟩ := hH.obj b _ e (show hp H b = some (.map es c) from hg) hb
        exact ⟨es', h3, .inr ⟨e.r, c, rfl, h2⟩⟩
      | _ => cases h
  · cases h

theorem rd_lookup (hH : HR P W φ (hp H) w) {t : TypeId} {x k : Operand} {ok : Bool} (ho : o.op = .lookup t x k ok) (hE : EvR P φ tm ρ [x, k]) {v : Value}
    (h : rdLookup P H t (eva P tm x) (eva P tm k) ok = some v) : ∃ v', VR φ v v' ∧ (execOp ρ o).run P w = .ok (.value v') w := by
  unfold rdLookup at h
  obtain ⟨kt, et, d, hu, hd, hkk, h⟩ := mapTK_inv h
  obtain ⟨es, hes, h⟩ := optK_inv h
  obtain ⟨kv, hk, h⟩ := optK_inv h
  cases hx : eva P tm x with
  | none => rw [hx] at hes; cases hes
  | some m =>
    rw [hx] at hes
    obtain ⟨es', hml, hm⟩ := esOf_sound hH (hE x (by simp) m hx) hes
    have hkv := hE k (by simp) kv hk
    unfold lookV at h
    cases hf : Instr.findNow d kv es 0 with
    | none => rw [hf] at h; cases h
    | some r =>
      rw [hf] at h
      obtain ⟨r', hf', hfr⟩ := findNow_VR hkv hml 0 r hf
      have hchk := run_checkKey (b := es'.toList.isEmpty) hd hkk (ρ k) w
      have hfk := run_findKey hd hf' w
      cases hfr with
      | @some i u u' hu' =>
        have h : some (okV ok u true) = some v := h
        cases h
        refine ⟨_, okV_VR (b := true) hu', ?_⟩
        rcases hm with ⟨hm, rfl⟩ | ⟨r, c, hm, hr⟩
        · simp [Instr.findNow] at hf'
        · simp only [execOp, ho, Instr.lookup, Sem.run_bind, run_und hu, Result.andThen_ok, hm, MapKept.run_getObj_map hr, Sem.run_pure, run_checkKey hd hkk, hfk]
      | none =>
        have h : optK (zeroF P et) (fun z => some (okV ok z false)) none = some v := h
        obtain ⟨z, hz, h⟩ := optK_inv h
        cases h
        obtain ⟨hz1, hz2⟩ := zeroF_inv hz
        refine ⟨_, okV_VR (b := false) (.flat z hz2), ?_⟩
        rcases hm with ⟨hm, rfl⟩ | ⟨r, c, hm, hr⟩
        · simp only [execOp, ho, Instr.lookup, Sem.run_bind, run_und hu, Result.andThen_ok, hm, Sem.run_pure, run_checkKey hd hkk, hfk, hz1]
        · simp only [execOp, ho, Instr.lookup, Sem.run_bind, run_und hu, Result.andThen_ok, hm, MapKept.run_getObj_map hr, Sem.run_pure, run_checkKey hd hkk, hfk, hz1]

theorem strOf_inv : ∀ (l : List Value) (r : List UInt8), strOf l = some r → ∃ ns : List Int, l = ns.map (Value.int .u8) ∧ r = ns.map fun n => UInt8.ofNat n.toNat
  | [], r, h => by cases h; exact ⟨[], rfl, rfl⟩
  | v :: l, r, h => by
    unfold strOf at h
    split at h
    · rename_i q; cases q
    · rename_i n l' q
      cases q
      cases hs : strOf l with
      | none => rw [hs] at h; cases h
      | some r' =>
        rw [hs] at h
        cases h
        obtain ⟨ns, h1, h2⟩ := strOf_inv l r' hs
        exact ⟨(n : Int) :: ns, by rw [h1]; rfl, by rw [h2]; rfl⟩
    · cases h
theorem fold_push : ∀ (ns : List Int) (s : ByteArray), ns.foldl (fun (r : ByteArray) n => r.push (UInt8.ofNat n.toNat)) s = ⟨⟨s.data.toList ++ ns.map fun n => UInt8.ofNat n.toNat⟩⟩
  | [], s => by simp
  | n :: ns, s => by
    rw [List.foldl_cons, fold_push ns]
    congr 2
    simp [ByteArray.push]
theorem LR.ints {ns : List Int} {l' : List Value} (h : LR φ (ns.map (Value.int .u8)) l') : l' = ns.map (Value.int .u8) := by
  have hl := h.len
  refine List.ext_getElem? fun i => ?_
  by_cases hi : i < l'.length
  · have h1 := List.getElem?_eq_getElem hi
    have h2 := List.getElem?_eq_getElem (hl ▸ hi : i < (ns.map (Value.int .u8)).length)
    rw [h1, h2, (h.at_ i _ _ h2 h1).eq_of_flat (by simp [Ev.flat, flatN])]
  · rw [List.getElem?_eq_none (by omega), List.getElem?_eq_none (by rw [hl]; omega)]

theorem run_bytes {s d : TypeId} {x : Operand} (ho : o.op = .convert s d x) (hty : isBytesT P s d = true) {a : Addr} {n c' : Nat} {ns : List Int} (hx : ρ x = .slice (some a) n c') (hload : (loadCells a n).run P w = .ok (ns.map (Value.int .u8)).toArray w) :
    (execOp ρ o).run P w = .ok (.value (.string ⟨⟨ns.map fun n => UInt8.ofNat n.toNat⟩⟩)) w := by
  unfold isBytesT at hty
  split at hty
  · rename_i e hs hd
    split at hty
    · rename_i he
      simp only [execOp, ho, hx, Sem.run_bind, run_convert_bytes_string w s d e _ n c' hs he hd, run_bytesToString w _ n c' ns hload, Result.andThen_ok, fold_push]
      rfl
    · cases hty
  · cases hty

theorem run_bytes0 {s d : TypeId} {x : Operand} (ho : o.op = .convert s d x) (hty : isBytesT P s d = true) (hx : ρ x = .slice none 0 0) :
    (execOp ρ o).run P w = .ok (.value (.string ⟨⟨[]⟩⟩)) w := by
  unfold isBytesT at hty
  split at hty
  · rename_i e hs hd
    split at hty
    · rename_i he
      have hu := run_und (w := w) hs
      have hue := run_und (w := w) he
      have hud := run_und (w := w) hd
      simp [execOp, ho, hx, convert, hu, hue, hud, Conv.bytesToString]
      try rfl
    · cases hty
  · cases hty

theorem rd_conv (hH : HR P W φ (hp H) w) {s d : TypeId} {x : Operand} (ho : o.op = .convert s d x) (hE : EvR P φ tm ρ o.op.operands.toList) {v : Value}
    (h : rdConv P H s d (eva P tm x) = some v) : ∃ v', VR φ v v' ∧ (execOp ρ o).run P w = .ok (.value v') w := by
  have hEx : ∀ v, eva P tm x = some v → VR φ v (ρ x) := hE x (by rw [ho]; simp [Op.operands])
  unfold rdConv at h
  split at h
  · rename_i b off n cp hx
    obtain ⟨en, c', h5, _, h6, _⟩ := (hEx _ hx).slice_inv
    obtain ⟨hty, h⟩ := bif_inv h
    obtain ⟨m, tr, hg, h⟩ := rowK_inv h
    obtain ⟨hle, h⟩ := bif_inv h
    obtain ⟨l, hl, h⟩ := optK_inv h
    obtain ⟨r, hr, h⟩ := optK_inv h
    cases h
    obtain ⟨c, el', fz, hrow, hn, hc⟩ := hH.row hg h5
    have hle := ble_le hle
    obtain ⟨h7, h8⟩ := row_LR hc hl hle hn
    obtain ⟨ns, rfl, rfl⟩ := strOf_inv l r hr
    have h9 := h7.ints
    refine ⟨_, .flat _ rfl, run_bytes ho hty h6 ?_⟩
    rw [← h9]; exact run_row hrow (by omega)
  · rename_i y _ hx
    cases hr : isRowV y with
    | true =>
      rw [hr] at h
      obtain ⟨s', es, rfl, h1⟩ := rowVK_inv (show rowVK y (fun s' es => bif isBytesT P s d && Nat.beq s' 1 then optK (strOf es) (fun r => some (Value.string ⟨⟨r⟩⟩)) none else none) none = some v from h)
      obtain ⟨h2, h3⟩ := bif_inv h1
      simp only [Bool.and_eq_true] at h2
      have hs1 := beq_eq h2.2
      obtain ⟨r, hsr, h4⟩ := optK_inv h3
      cases h4
      subst hs1
      clear h h1 h3
      obtain ⟨ns, rfl, rfl⟩ := strOf_inv es r hsr
      refine ⟨_, .flat _ rfl, ?_⟩
      rcases (hEx _ hx).row_inv with ⟨q, hy | ⟨a, c', hy⟩⟩ | ⟨k, o', c', e, c, h3, h4, h5, h6, h7, h8, hy⟩
      · have : ns = [] := by simpa using q
        subst this
        exact run_bytes0 ho h2.1 hy
      · have : ns = [] := by simpa using q
        subst this
        exact run_bytes ho h2.1 hy rfl
      · rw [List.length_map] at hy
        refine run_bytes ho h2.1 hy ?_
        by_cases hne : ns = []
        · subst hne; rfl
        · have h6 := h6 (by simpa using hne)
          rw [List.length_map, Nat.mul_one] at h6
          obtain ⟨el, fz, hrow⟩ := hH.fzr k e c h3 h4
          have h9 : LR φ (ns.map (Value.int .u8)) ((c.toList.drop o').take ns.length) := ⟨by simp; omega, fun i a b ha hb => by
            rw [List.getElem?_take] at hb
            split at hb
            · rw [List.getElem?_drop, Array.getElem?_toList] at hb
              have hcell : a.cells.toList = [a] := by
                rw [List.getElem?_map] at ha
                cases hn : ns[i]? with
                | none => rw [hn] at ha; cases ha
                | some z => rw [hn] at ha; cases ha; rfl
              refine h8 i 0 a a b ha (by rw [hcell]; rfl) ?_
              rw [Nat.mul_one, Nat.add_zero]
              exact hb
            · cases hb⟩
          have h10 := h9.ints
          rw [← h10]
          exact run_row hrow (by omega)
    | false =>
      rw [hr] at h
      have h : convV P s d y = some v := h
      unfold convV at h
      obtain ⟨h1, h2⟩ := bif_inv h
      obtain ⟨h3, h4⟩ := fV_inv h2
      have e := (hEx _ hx).eq_of_flat h1
      refine ⟨v, .flat v h3, ?_⟩
      simp only [execOp, ho, e, Sem.run_bind, h4 w, Result.andThen_ok]
      rfl
  · cases h

theorem rd_index {t : TypeId} {x ix : Operand} (ho : o.op = .index t x ix) (hE : EvR P φ tm ρ o.op.operands.toList) {v : Value}
    (h : rdIndex P t (eva P tm x) (eva P tm ix) = some v) (w : World) : ∃ v', VR φ v v' ∧ (execOp ρ o).run P w = .ok (.value v') w := by
  unfold rdIndex at h
  split at h
  case h_2 => cases h
  rename_i k i0 hi
  have h3 := (hE ix (by rw [ho]; simp [Op.operands]) _ hi).eq_of_flat rfl
  split at h
  · rename_i cs hx
    obtain ⟨i, rfl, h4⟩ := intNK_inv h
    clear h
    obtain ⟨c', h1, h2⟩ := (hE x (by rw [ho]; simp [Op.operands]) _ hx).agg_inv
    have h2 : LR φ cs c'.toList := h2
    unfold rdIx at h4
    cases hu : P.underlying t with
    | none => simp only [hu] at h4; cases h4
    | some d =>
      cases d with
      | array len e =>
        simp only [hu] at h4
        obtain ⟨hlt, h⟩ := bif_inv h4
        have hlt := blt_lt hlt
        cases ha : aggQ P e with
        | none => simp only [ha] at h; cases h
        | some b =>
          simp only [ha] at h
          cases b with
          | false =>
            cases hs : szOf P e with
            | none => simp only [hs] at h; cases h
            | some s =>
              simp only [hs] at h
              obtain ⟨v', h4, h5⟩ := h2.get h
              have h6 : c'[i * s]? = some v' := by simpa using h4
              exact ⟨v', h5, by simp [execOp, ho, h1, h3, Instr.index, asIntOf, run_und hu, hlt, part, run_isAgg ha, run_size hs, h6]⟩
          | true =>
            cases hs : szOf P e with
            | none => simp only [hs] at h; cases h
            | some s =>
              simp only [hs] at h
              obtain ⟨hle, h4⟩ := bif_inv h
              cases h4
              refine ⟨_, ((h2.drop (i * s)).take s).agg, ?_⟩
              have e0 : (⟨(c'.toList.drop (i * s)).take s⟩ : Array Value) = c'.extract (i * s) (i * s + s) := by
                apply Array.ext'
                simp only [Array.toList_extract, List.extract_eq_take_drop]
                rw [show i * s + s - i * s = s from by omega]
              rw [e0]
              simp [execOp, ho, h1, h3, Instr.index, asIntOf, run_und hu, hlt, part, run_isAgg ha, run_size hs]
      | _ => simp only [hu] at h4; cases h4
  · rename_i y _ hx
    unfold indexV at h
    obtain ⟨h1, h2⟩ := bif_inv h
    simp only [Bool.and_eq_true] at h1
    obtain ⟨h4, h5⟩ := fV_inv h2
    have e := (hE x (by rw [ho]; simp [Op.operands]) _ hx).eq_of_flat h1.1
    refine ⟨v, .flat v h4, ?_⟩
    simp only [execOp, ho, e, h3, Sem.run_bind, h5 w, Result.andThen_ok]
    rfl
  · cases h

theorem rd_sound (hH : HR P W φ (hp H) w) (hE : EvR P φ tm ρ o.op.operands.toList) {v : Value} (h : rd P H tm o = some v) :
    ∃ v', VR φ v v' ∧ (execOp ρ o).run P w = .ok (.value v') w := by
  unfold rd at h
  have one : ∀ x, o.op.operands.toList = [x] → ∀ v, eva P tm x = some v → VR φ v (ρ x) := fun x hx => hE x (by simp [hx])
  cases ho : o.op with
  | move x => simp only [ho] at h; exact rd_move (.inl ho) (one x (by rw [ho]; rfl)) h w
  | assign x => simp only [ho] at h; exact rd_move (.inr ho) (one x (by rw [ho]; rfl)) h w
  | pick c a b => simp only [ho] at h; exact rd_pick ho (fun x hx => hE x (by rw [ho]; exact hx)) h w
  | load t x => simp only [ho] at h; exact rd_load hH ho (one x (by rw [ho]; rfl)) h
  | nilCheck x => simp only [ho] at h; exact rd_nil ho (one x (by rw [ho]; rfl)) h w
  | fieldAddr s x f => simp only [ho] at h; exact rd_fieldAddr ho (one x (by rw [ho]; rfl)) h w
  | indexAddr t x ix => simp only [ho] at h; exact rd_indexAddr ho (fun y hy => hE y (by rw [ho]; exact hy)) h w
  | extract x i => simp only [ho] at h; exact rd_extract ho (one x (by rw [ho]; rfl)) h w
  | field t x f => simp only [ho] at h; exact rd_field ho (one x (by rw [ho]; rfl)) h w
  | slice t x lo hi mx => simp only [ho] at h; exact rd_slice hH ho hE h
  | call c =>
    simp only [ho] at h
    unfold rdCall at h
    split at h
    · rename_i hc; exact rd_len hc ho hE h w
    · rename_i hc; exact rd_blt (.inr (.inl rfl)) hc ho (fun x hx v hv => hE x (by rw [ho]; simp [Op.operands, Call.operands, hc]; simpa using hx) v hv) h w
    · rename_i hc; exact rd_blt (.inr (.inr rfl)) hc ho (fun x hx v hv => hE x (by rw [ho]; simp [Op.operands, Call.operands, hc]; simpa using hx) v hv) h w
    · cases h
  | binOp op t x y yt => simp only [ho] at h; exact rd_bin hH ho hE h
  | build t ps => simp only [ho] at h; exact rd_build ho hE h w
  | makeInterface t x => simp only [ho] at h; exact rd_iface ho (one x (by rw [ho]; rfl)) h w
  | unOp op _ x =>
    simp only [ho] at h
    unfold unV at h
    obtain ⟨y, hy, h⟩ := optK_inv h
    obtain ⟨h1, h2⟩ := bif_inv h
    obtain ⟨h3, h4⟩ := fV_inv h2
    have e := (one x (by rw [ho]; rfl) y hy).eq_of_flat h1
    refine ⟨v, .flat v h3, ?_⟩
    simp only [execOp, ho, e, Sem.run_bind, h4 w, Result.andThen_ok]
    rfl
  | convert s d x => simp only [ho] at h; exact rd_conv hH ho hE h
  | makeFunc fn a b => simp only [ho] at h; exact rd_func ho hE h w
  | typeAssert x xt t ok => simp only [ho] at h; exact rd_assert ho (one x (by rw [ho]; rfl)) h w
  | lookup t m k ok => simp only [ho] at h; exact rd_lookup hH ho (by rw [ho] at hE; exact hE) h
  | index t x ix => simp only [ho] at h; exact rd_index ho hE h w
  | _ => simp only [ho] at h; cases h
end ops
end
end Go.Ev
