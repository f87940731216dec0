/- The evaluator's operations that leave memory as it is do what the model's do: the rest, and all together. -/
import Derived.Test.YtgfiajgofihpnaaEvD
namespace Go.Ev
noncomputable section
variable {P : Program} {W w : World} {φ : Phi} {H : T OB} {tm : T Value} {ρ : Operand → Value}

/-! literals -/
theorem fold_LR : ∀ (l l' : List Value), LR φ l l' → ∀ (k off : Nat) (cs cs' : Array Value), LR φ cs.toList cs'.toList →
    LR φ ((l.zipIdx k).foldl (fun (cs : Array Value) p => cs.setIfInBounds (off + p.2) p.1) cs).toList
      ((l'.zipIdx k).foldl (fun (cs : Array Value) p => cs.setIfInBounds (off + p.2) p.1) cs').toList
  | [], l', h, k, off, cs, cs', hc => by
    cases h.nil_inv
    exact hc
  | v :: l, l', h, k, off, cs, cs', hc => by
    obtain ⟨v', m, rfl, h1, h2⟩ := h.inv
    simp only [List.zipIdx_cons, List.foldl_cons]
    refine fold_LR l m h2 (k + 1) off _ _ ?_
    rw [Array.toList_setIfInBounds, Array.toList_setIfInBounds]
    exact hc.set _ h1

/-- Parts of a literal, one by one. -/
inductive PR (φ : Phi) : List (Nat × Value) → List (Nat × Value) → Prop
  | nil : PR φ [] []
  | cons {i : Nat} {v v' : Value} {l l' : List (Nat × Value)} (h : VR φ v v') (hl : PR φ l l') : PR φ ((i, v) :: l) ((i, v') :: l')

theorem fill_PR (place : Nat → Option (Nat × Nat)) {vs vs' : List (Nat × Value)} (h : PR φ vs vs') : ∀ (cs cs' r : Array Value), LR φ cs.toList cs'.toList →
    Instr.fill place cs vs = some r → ∃ r', Instr.fill place cs' vs' = some r' ∧ LR φ r.toList r'.toList := by
  induction h with
  | nil => intro cs cs' r hc h; cases h; exact ⟨cs', rfl, hc⟩
  | @cons i v v' l l' hv _ ih =>
    intro cs cs' r hc h
    unfold Instr.fill at h ⊢
    cases hp : place i with
    | none => simp only [hp] at h; cases h
    | some q =>
      obtain ⟨off, size⟩ := q
      simp only [hp] at h ⊢
      have hcl := hv.cells
      have e1 : v'.cells.size = v.cells.size := by have := hcl.len; simpa using this.symm
      have e2 : cs'.size = cs.size := by have := hc.len; simpa using this.symm
      rw [e1, e2]
      split at h
      · cases h
      · rename_i hb
        rw [if_neg hb]
        refine ih _ _ r ?_ h
        rw [← Array.foldl_toList, ← Array.foldl_toList, Array.toList_zipIdx, Array.toList_zipIdx]
        exact fold_LR _ _ hcl 0 off cs cs' hc

theorem parts_PR : ∀ (ps : List (Nat × Operand)) (vs : List (Nat × Value)), (∀ p ∈ ps, ∀ v, eva tm p.2 = some v → VR φ v (ρ p.2)) → parts tm ps = some vs →
    PR φ vs (ps.map fun p => (p.1, ρ p.2))
  | [], vs, _, h => by cases h; exact .nil
  | p :: ps, vs, hE, h => by
    unfold parts at h
    split at h
    · cases h
    · rename_i v hv
      split at h
      · cases h
      · rename_i us hus
        cases h
        exact .cons (hE p (by simp) v hv) (parts_PR ps us (fun q hq => hE q (by simp [hq])) hus)

theorem zeroC_inv {t : TypeId} {l : List Value} (h : zeroC P t = some l) : ∃ i z, P.info? t = some i ∧ i.zero = some z ∧ z.cells.toList = l ∧ ∀ x ∈ l, flat x = true := by
  unfold zeroC at h
  split at h
  · rename_i i hi
    split at h
    · rename_i z hz
      obtain ⟨h1, h2⟩ := bif_inv h
      cases h2
      exact ⟨i, z, hi, hz, rfl, fun x hx => List.all_eq_true.1 h1 x hx⟩
    · cases h
  · cases h

theorem built_PR {t : TypeId} {l : List Value} (hz : zeroC P t = some l) {vs vs' : List (Nat × Value)} (h : PR φ vs vs') {r : Array Value} (hb : P.built t vs = some r) :
    ∃ r', P.built t vs' = some r' ∧ LR φ r.toList r'.toList := by
  obtain ⟨i, z, hi, hz, hl, hf⟩ := zeroC_inv hz
  have hzz : LR φ z.cells.toList z.cells.toList := .of_flat (by rw [hl]; exact hf)
  unfold Program.built at hb ⊢
  rw [hi] at hb ⊢
  cases hu : P.underlying t with
  | none => rw [hu] at hb; cases hb
  | some d =>
    rw [hu] at hb
    cases d with
    | struct fs =>
      simp only [hz] at hb ⊢
      cases hp : fs.toList.mapM (fun f => (P.info? f.type).map fun i => (f.offset, i.size)) with
      | none => simp only [hp] at hb; cases hb
      | some places =>
        simp only [hp] at hb ⊢
        exact fill_PR _ h _ _ r hzz hb
    | array n e =>
      simp only [hz] at hb ⊢
      cases hp : P.info? e with
      | none => simp only [hp] at hb; cases hb
      | some ie =>
        simp only [hp] at hb ⊢
        exact fill_PR _ h _ _ r hzz hb
    | _ => cases hb

section ops
variable {o : Oper}
theorem rd_build {t : TypeId} {ps : Array (Nat × Operand)} (ho : o.op = .build t ps) (hE : EvR φ tm ρ o.op.operands.toList) {v : Value}
    (h : rdBuild P tm t ps.toList = some v) (w : World) : ∃ v', VR φ v v' ∧ (execOp ρ o).run P w = .ok (.value v') w := by
  unfold rdBuild at h
  obtain ⟨vs, h1, h⟩ := optK_inv h
  obtain ⟨z, hz, h⟩ := optK_inv h
  obtain ⟨cs, hb, h⟩ := optK_inv h
  cases h
  have hp : PR φ vs (ps.toList.map fun p => (p.1, ρ p.2)) := parts_PR ps.toList vs (fun p hp => hE p.2 (by
    rw [ho]
    show p.2 ∈ ((ps.toList.map (·.2)).toArray).toList
    simp only [List.toList_toArray]
    exact List.mem_map.2 ⟨p, hp, rfl⟩)) h1
  obtain ⟨r', h2, h3⟩ := built_PR hz hp hb
  refine ⟨.agg r', h3.agg, ?_⟩
  have h4 : P.built t (ps.map fun (i, x) => (i, ρ x)).toList = some r' := by rw [Array.toList_map]; exact h2
  simp [execOp, ho, run_build w t _ r' h4]

theorem rd_iface {t : TypeId} {x : Operand} (ho : o.op = .makeInterface t x) (hE : ∀ v, eva tm x = some v → VR φ v (ρ x)) {v : Value}
    (h : rdIface P t (eva tm x) = some v) (w : World) : ∃ v', VR φ v v' ∧ (execOp ρ o).run P w = .ok (.value v') w := by
  unfold rdIface at h
  split at h
  · cases h
  · rename_i d hn hu
    obtain ⟨u, h1, h2⟩ := optK_inv h
    cases h2
    refine ⟨_, .iface (t := t) (hE u h1), ?_⟩
    simp only [execOp, ho, Instr.makeInterface, Sem.run_bind, run_und hu, Result.andThen_ok]
    rfl
  · cases h

theorem run_len {c : Call} (hc : c.callee = .builtin .len) (ho : o.op = .call c) (w : World) {v : Value}
    (h : (Builtin.len_ c.argTypes o.type (c.args.map ρ)).run P w = .ok v w) : (execOp ρ o).run P w = .ok (.value v) w := by
  simp [execOp, ho, resolve, hc, invoke, builtin, h]

theorem rd_len {c : Call} (hc : c.callee = .builtin .len) (ho : o.op = .call c) (hE : EvR φ tm ρ o.op.operands.toList) {v : Value}
    (h : rdLen P tm o c.args c.argTypes = some v) (w : World) : ∃ v', VR φ v v' ∧ (execOp ρ o).run P w = .ok (.value v') w := by
  unfold rdLen at h
  split at h
  · rename_i x hx
    split at h
    · rename_i a n cp hv
      obtain ⟨h1, h2⟩ := bif_inv h
      cases h2
      obtain ⟨b, off, s⟩ := a
      have hargs : c.args = #[x] := by
        have : c.args.toList.toArray = #[x] := by rw [hx]
        simpa using this
      have hmem : x ∈ o.op.operands.toList := by rw [ho]; simp [Op.operands, Call.operands, hc, hargs]
      obtain ⟨en, c', h5, _, h6, _⟩ := (hE x hmem _ hv).slice_inv
      unfold isSliceT at h1
      split at h1
      · rename_i t ht
        split at h1
        · rename_i e he
          refine ⟨_, .flat _ rfl, run_len hc ho w ?_⟩
          have hu := run_und he
          simp [Builtin.len_, hargs, ht, h6, hu, goInt]
        · cases h1
      · cases h1
    · obtain ⟨v', h1, h2⟩ := flatRun_sound (by simp [ho]) hE h
      exact ⟨v', h1, h2 w⟩
  · cases h

theorem nilCmp_VR {d : TypeDesc} {a b a' b' : Value} {r : Bool} (h : nilCmp d a b = some r) (ha : VR φ a a') (hb : VR φ b b') : nilCmp d a' b' = some r := by
  unfold nilCmp at h
  split at h
  · rename_i x; obtain ⟨k, o, s⟩ := x; obtain ⟨e, _, _, rfl⟩ := ha.ptr_inv; rw [hb.eq_of_flat rfl]; exact h
  · rename_i x; obtain ⟨k, o, s⟩ := x; obtain ⟨e, _, _, rfl⟩ := hb.ptr_inv; rw [ha.eq_of_flat rfl]; exact h
  · rename_i x _ _ _ _; obtain ⟨k, o, s⟩ := x; obtain ⟨e, c', _, _, rfl, _⟩ := ha.slice_inv; rw [hb.eq_of_flat rfl]; exact h
  · rename_i _ _ x _ _; obtain ⟨k, o, s⟩ := x; obtain ⟨e, c', _, _, rfl, _⟩ := hb.slice_inv; rw [ha.eq_of_flat rfl]; exact h
  · obtain ⟨e, _, rfl⟩ := ha.map_inv; rw [hb.eq_of_flat rfl]; exact h
  · obtain ⟨e, _, rfl⟩ := hb.map_inv; rw [ha.eq_of_flat rfl]; exact h
  · obtain ⟨u, rfl, _⟩ := ha.iface_inv; rw [hb.eq_of_flat rfl]; exact h
  · obtain ⟨u, rfl, _⟩ := hb.iface_inv; rw [ha.eq_of_flat rfl]; exact h
  · cases h

theorem run_equalIn {t : TypeId} {d : TypeDesc} (hu : P.underlying t = some d) {a b : Value} {r : Bool} (h : nilCmp d a b = some r) (n : Nat) (w : World) :
    (Op.equalIn (n + 1) t a b).run P w = .ok r w := by
  have hq := run_und hu w
  unfold nilCmp at h
  split at h <;> (try (cases h; done)) <;> cases h <;> simp only [Op.equalIn, Sem.run_bind, hq, Result.andThen_ok] <;> rfl

theorem run_nilCmp {t : TypeId} {d : TypeDesc} (hu : P.underlying t = some d) {a b : Value} {r : Bool} (h : nilCmp d a b = some r) (w : World) :
    (∀ op x y, (eqGuard op t x y a b).run P w = .ok () w) ∧ (binOp .eql t a b).run P w = .ok (.bool r) w ∧ (binOp .neq t a b).run P w = .ok (.bool (!r)) w := by
  have h1 : (Op.equal t a b).run P w = .ok r w := run_equalIn hu h 9999 w
  have e1 : binOp .eql t a b = (do pure (.bool (← Op.equal t a b))) := by
    unfold nilCmp at h
    split at h <;> first | rfl | cases h
  have e2 : binOp .neq t a b = (do pure (.bool (!(← Op.equal t a b)))) := by
    unfold nilCmp at h
    split at h <;> first | rfl | cases h
  refine ⟨fun op x y => ?_, ?_, ?_⟩
  · unfold nilCmp at h
    split at h <;> first | (cases h; done) | (cases op <;> rfl)
  · rw [e1, Sem.run_bind, h1]; rfl
  · rw [e2, Sem.run_bind, h1]; rfl

theorem rd_cmp {op : BinOp} {t yt : TypeId} {x y : Operand} (ho : o.op = .binOp op t x y yt) {a b v : Value} (ha : VR φ a (ρ x)) (hb : VR φ b (ρ y))
    (h : rdCmp P op t a b = some v) (w : World) : ∃ v', VR φ v v' ∧ (execOp ρ o).run P w = .ok (.value v') w := by
  unfold rdCmp at h
  split at h
  · rename_i d hu
    split at h
    · rename_i r hr
      obtain ⟨h2, h3, h4⟩ := run_nilCmp hu (nilCmp_VR hr ha hb) w
      split at h
      · cases h
        refine ⟨_, .flat _ rfl, ?_⟩
        simp only [execOp, ho, Sem.run_bind, h2, Result.andThen_ok, h3]
        rfl
      · cases h
        refine ⟨_, .flat _ rfl, ?_⟩
        simp only [execOp, ho, Sem.run_bind, h2, Result.andThen_ok, h4]
        rfl
      · cases h
    · cases h
  · cases h

theorem rd_bin {op : BinOp} {t yt : TypeId} {x y : Operand} (ho : o.op = .binOp op t x y yt) (hE : EvR φ tm ρ o.op.operands.toList) {v : Value}
    (h : rdBin P tm o op t x y = some v) (w : World) : ∃ v', VR φ v v' ∧ (execOp ρ o).run P w = .ok (.value v') w := by
  unfold rdBin at h
  obtain ⟨a, ha, h⟩ := optK_inv h
  obtain ⟨b, hb, h⟩ := optK_inv h
  have hops : o.op.operands.toList = [x, y] := by rw [ho]; rfl
  cases hf : flat a && flat b with
  | false =>
    rw [hf] at h
    exact rd_cmp ho (hE x (by simp [hops]) a ha) (hE y (by simp [hops]) b hb) h w
  | true =>
    rw [hf] at h
    simp only [Bool.and_eq_true] at hf
    obtain ⟨h3, h4⟩ := nextV_inv (show nextV (pureRun P (execOp (ρof tm) o)) = some v from h)
    refine ⟨v, .flat v h4, ?_⟩
    rw [exec_flat (by simp [ho]) hE (fun z hz => by
      rw [hops] at hz
      unfold flatAt
      simp only [List.mem_cons, List.not_mem_nil, or_false] at hz
      rcases hz with rfl | rfl
      · rw [ha]; exact hf.1
      · rw [hb]; exact hf.2)]
    exact pureRun_run P _ _ h3 w

theorem rd_sound (hH : HR P W φ (hp H) w) (hE : EvR φ tm ρ o.op.operands.toList) {v : Value} (h : rd P H tm o = some v) :
    ∃ v', VR φ v v' ∧ (execOp ρ o).run P w = .ok (.value v') w := by
  unfold rd at h
  have one : ∀ x, o.op.operands.toList = [x] → ∀ v, eva tm x = some v → VR φ v (ρ x) := fun x hx => hE x (by simp [hx])
  have fl : ∀ {v}, (∀ cs b, o.op ≠ .select cs b) → flatRun P tm o = some v → ∃ v', VR φ v v' ∧ (execOp ρ o).run P w = .ok (.value v') w := fun hs h => by
    obtain ⟨v', h1, h2⟩ := flatRun_sound hs hE h
    exact ⟨v', h1, h2 w⟩
  cases ho : o.op with
  | move x => simp only [ho] at h; exact rd_move (.inl ho) (one x (by rw [ho]; rfl)) h w
  | assign x => simp only [ho] at h; exact rd_move (.inr ho) (one x (by rw [ho]; rfl)) h w
  | pick c a b => simp only [ho] at h; exact rd_pick ho (fun x hx => hE x (by rw [ho]; exact hx)) h w
  | load t x => simp only [ho] at h; exact rd_load hH ho (one x (by rw [ho]; rfl)) h
  | nilCheck x => simp only [ho] at h; exact rd_nil ho (one x (by rw [ho]; rfl)) h w
  | fieldAddr s x f => simp only [ho] at h; exact rd_fieldAddr ho (one x (by rw [ho]; rfl)) h w
  | indexAddr t x ix => simp only [ho] at h; exact rd_indexAddr ho (fun y hy => hE y (by rw [ho]; exact hy)) h w
  | extract x i => simp only [ho] at h; exact rd_extract ho (one x (by rw [ho]; rfl)) h w
  | field t x f => simp only [ho] at h; exact rd_field ho (one x (by rw [ho]; rfl)) h w
  | slice t x lo hi mx =>
    simp only [ho] at h
    cases mx with
    | none => exact rd_slice hH ho hE h
    | some m => exact fl (by simp [ho]) h
  | call c =>
    simp only [ho] at h
    unfold rdCall at h
    split at h
    · rename_i hc; exact rd_len hc ho hE h w
    · exact fl (by simp [ho]) h
    · exact fl (by simp [ho]) h
    · cases h
  | binOp op t x y yt => simp only [ho] at h; exact rd_bin ho hE h w
  | build t ps => simp only [ho] at h; exact rd_build ho hE h w
  | makeInterface t x => simp only [ho] at h; exact rd_iface ho (one x (by rw [ho]; rfl)) h w
  | unOp _ _ _ => simp only [ho] at h; exact fl (by simp [ho]) h
  | convert _ _ _ => simp only [ho] at h; exact fl (by simp [ho]) h
  | index _ _ _ => simp only [ho] at h; exact fl (by simp [ho]) h
  | _ => simp only [ho] at h; cases h
end ops
end
end Go.Ev
