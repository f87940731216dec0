/- What a reader reads; orders of a region with a draw. -/
import Derived.Test.YtcfpakjillacgaaGreatDoorQI
namespace Go.Ev
noncomputable section
variable {P : Program} {H H' : T OB} {tm tm' : T Value}

/-! a reader hangs on its operands -/
theorem parts_congr : ∀ (ps : List (Nat × Operand)), (∀ p ∈ ps, eva P tm' p.2 = eva P tm p.2) → parts P tm' ps = parts P tm ps
  | [], _ => rfl
  | p :: ps, h => by simp only [parts, h p (by simp), parts_congr ps (fun q hq => h q (by simp [hq]))]

theorem evs_congr : ∀ (l : List Operand), (∀ x ∈ l, eva P tm' x = eva P tm x) → evs P tm' l = evs P tm l
  | [], _ => rfl
  | x :: l, h => by simp only [evs, h x (by simp), evs_congr l (fun y hy => h y (by simp [hy]))]

theorem evaO_congr {x : Option Operand} (h : ∀ y ∈ x.toList, eva P tm' y = eva P tm y) : evaO P tm' x = evaO P tm x := by
  cases x with
  | none => rfl
  | some y => simp only [evaO, h y (by simp)]

theorem rd_congr {o : Oper} (h : ∀ x ∈ o.op.operands.toList, eva P tm' x = eva P tm x) : rd P H tm' o = rd P H tm o := by
  unfold rd
  cases ho : o.op with
  | move x => simp only [ho] at h; exact h x (by simp [Op.operands])
  | assign x => simp only [ho] at h; exact h x (by simp [Op.operands])
  | pick c a b =>
    simp only [ho] at h
    show rdPick (eva P tm' c) (eva P tm' a) (eva P tm' b) = rdPick (eva P tm c) (eva P tm a) (eva P tm b)
    rw [h c (by simp [Op.operands]), h a (by simp [Op.operands]), h b (by simp [Op.operands])]
  | load t x => simp only [ho] at h; show rdLoad P H t (eva P tm' x) = rdLoad P H t (eva P tm x); rw [h x (by simp [Op.operands])]
  | nilCheck x => simp only [ho] at h; show rdNil (eva P tm' x) = rdNil (eva P tm x); rw [h x (by simp [Op.operands])]
  | fieldAddr s x f => simp only [ho] at h; show rdFieldAddr P s (eva P tm' x) f = rdFieldAddr P s (eva P tm x) f; rw [h x (by simp [Op.operands])]
  | indexAddr t x ix =>
    simp only [ho] at h
    show rdIndexAddr P t (eva P tm' x) (eva P tm' ix) = rdIndexAddr P t (eva P tm x) (eva P tm ix)
    rw [h x (by simp [Op.operands]), h ix (by simp [Op.operands])]
  | extract x i => simp only [ho] at h; show rdExtract (eva P tm' x) i = rdExtract (eva P tm x) i; rw [h x (by simp [Op.operands])]
  | field t x f => simp only [ho] at h; show rdField P t (eva P tm' x) f = rdField P t (eva P tm x) f; rw [h x (by simp [Op.operands])]
  | slice t x lo hi mx =>
    have hops : o.op.operands.toList = [x] ++ lo.toList ++ hi.toList ++ mx.toList := by rw [ho]; cases lo <;> cases hi <;> cases mx <;> rfl
    rw [hops] at h
    show rdSlice P H t (eva P tm' x) (evaO P tm' lo) (evaO P tm' hi) (evaO P tm' mx) = rdSlice P H t (eva P tm x) (evaO P tm lo) (evaO P tm hi) (evaO P tm mx)
    rw [h x (by simp), evaO_congr (x := lo) (fun y hy => h y (by simp [hy])), evaO_congr (x := hi) (fun y hy => h y (by simp [hy])), evaO_congr (x := mx) (fun y hy => h y (by simp [hy]))]
  | call c =>
    show rdCall P tm' o c = rdCall P tm o c
    unfold rdCall
    split
    all_goals first
      | rfl
      | (rename_i hc
         rw [evs_congr c.args.toList (fun x hx => h x (by rw [ho]; simp [Op.operands, Call.operands, hc]; simpa using hx))])
  | makeFunc fn a b =>
    show rdFunc fn a.toList (evs P tm' b.toList) = rdFunc fn a.toList (evs P tm b.toList)
    rw [evs_congr b.toList (fun x hx => h x (by rw [ho]; simp [Op.operands]; right; simpa using hx))]
  | typeAssert x xt t ok => simp only [ho] at h; show rdAssert P (eva P tm' x) t ok = rdAssert P (eva P tm x) t ok; rw [h x (by simp [Op.operands])]
  | lookup t m k ok =>
    simp only [ho] at h
    show rdLookup P H t (eva P tm' m) (eva P tm' k) ok = rdLookup P H t (eva P tm m) (eva P tm k) ok
    rw [h m (by simp [Op.operands]), h k (by simp [Op.operands])]
  | convert s d x => simp only [ho] at h; show rdConv P H s d (eva P tm' x) = rdConv P H s d (eva P tm x); rw [h x (by simp [Op.operands])]
  | index t x ix =>
    simp only [ho] at h
    show rdIndex P t (eva P tm' x) (eva P tm' ix) = rdIndex P t (eva P tm x) (eva P tm ix)
    rw [h x (by simp [Op.operands]), h ix (by simp [Op.operands])]
  | binOp op t x y yt =>
    simp only [ho] at h
    show rdBin P H op t (isK x || isK y) (eva P tm' x) (eva P tm' y) = rdBin P H op t (isK x || isK y) (eva P tm x) (eva P tm y)
    rw [h x (by simp [Op.operands]), h y (by simp [Op.operands])]
  | build t ps =>
    simp only [ho] at h
    show rdBuild P t (parts P tm' ps.toList) = rdBuild P t (parts P tm ps.toList)
    rw [parts_congr ps.toList (fun p hp => h p.2 (by
      show p.2 ∈ ((ps.toList.map (·.2)).toArray).toList
      simp only [List.toList_toArray]
      exact List.mem_map.2 ⟨p, hp, rfl⟩))]
  | makeInterface t x => simp only [ho] at h; show rdIface P t (eva P tm' x) = rdIface P t (eva P tm x); rw [h x (by simp [Op.operands])]
  | unOp op _ x => simp only [ho] at h; show unV P op (eva P tm' x) = unV P op (eva P tm x); rw [h x (by simp [Op.operands])]
  | _ => rfl

/-- What is no load reads no memory. -/
theorem rd_heap {o : Oper} (h : isLd o.op = false) : rd P H' tm o = rd P H tm o := by
  unfold rd
  cases ho : o.op with
  | load t x => rw [ho] at h; cases h
  | slice t x lo hi mx => rw [ho] at h; cases h
  | lookup t m k ok => rw [ho] at h; cases h
  | convert s d x => rw [ho] at h; cases h
  | binOp op t x y yt => rw [ho] at h; cases h
  | _ => rfl

theorem wantedO_congr {ops : Array Oper} {o : Oper} (h : ∀ p, o.guard = some p → ∀ d, dstOf ops p.1 = some d → tm'.get (bits d) = tm.get (bits d)) : wantedO tm' ops o = wantedO tm ops o := by
  unfold wantedO
  split
  · rfl
  · rename_i p hp
    cases hd : dstOf ops p.1 with
    | none => rfl
    | some d =>
      show yieldO tm' d p.2 = yieldO tm d p.2
      unfold yieldO
      rw [h p hp d hd]

theorem vEqL_sound {eq : Value → Value → Bool} (h : ∀ a b, eq a b = true → a = b) : ∀ (l m : List Value), vEqL eq l m = true → l = m
  | [], [], _ => rfl
  | a :: l, b :: m, q => by
    simp only [vEqL, Bool.and_eq_true] at q
    rw [h a b q.1, vEqL_sound h l m q.2]
  | [], _ :: _, q => by cases q
  | _ :: _, [], q => by cases q
theorem vEqN_sound : ∀ (n : Nat) (v w : Value), vEqN n v w = true → v = w
  | 0, _, _, h => by cases h
  | n + 1, v, w, h => by
    have ih := vEqN_sound n
    unfold vEqN at h
    split at h
    all_goals first
      | (cases h; done)
      | rfl
      | (simp only [Bool.and_eq_true, beq_iff_eq, decide_eq_true_eq] at h; simp_all; done)
      | (simp only [Bool.and_eq_true, beq_iff_eq] at h; rw [h.1, ih _ _ h.2]; done)
      | (rename_i a b; have := vEqL_sound ih _ _ h; rw [Array.toList_inj] at this; rw [this]; done)
theorem vEq_sound {v w : Value} (h : vEq v w = true) : v = w := by
  unfold vEq at h
  simp only [Bool.or_eq_true, decide_eq_true_eq] at h
  exact h.elim (vEqN_sound 4 v w) id
theorem vEq_self (v : Value) : vEq v v = true := by unfold vEq; simp

/-! orders -/
/-- What hangs on an edge comes before, and nothing comes twice. -/
def LinOk (ops : Array Oper) : List Nat → Prop
  | [] => True
  | i :: l => (∃ o, ops[i]? = some o ∧ ∀ e ∈ o.after, Region.binds .any e = true → e.on ∉ i :: l) ∧ i ∉ l ∧ LinOk ops l

theorem filter_lt {α : Type} (p q : α → Bool) (hpq : ∀ x, q x = true → p x = true) : ∀ (l : List α) (x : α), x ∈ l → p x = true → q x = false → (l.filter q).length < (l.filter p).length
  | [], x, h, _, _ => by cases h
  | y :: l, x, h, hp, hq => by
    have hle : (l.filter q).length ≤ (l.filter p).length := by
      clear h
      induction l with
      | nil => simp
      | cons z l ih =>
        by_cases hqz : q z = true
        · rw [List.filter_cons_of_pos hqz, List.filter_cons_of_pos (hpq z hqz)]
          simp only [List.length_cons]; omega
        · rw [List.filter_cons_of_neg hqz]
          by_cases hpz : p z = true
          · rw [List.filter_cons_of_pos hpz]; simp only [List.length_cons]; omega
          · rw [List.filter_cons_of_neg hpz]; exact ih
    by_cases hyx : y = x
    · subst hyx
      simp [hp, hq]; omega
    · have hx : x ∈ l := by
        cases h with
        | head => exact absurd rfl hyx
        | tail _ h => exact h
      have ih := filter_lt p q hpq l x hx hp hq
      by_cases hqy : q y = true
      · simp [hqy, hpq y hqy]; exact ih
      · by_cases hpy : p y = true
        · simp [hqy, hpy]; omega
        · simp [hqy, hpy]; exact ih

def unl (ops : Array Oper) (listed : Array Bool) : List Nat := (List.range ops.size).filter fun i => !listed.getD i true

theorem go_lin (ops : Array Oper) (hac : acyclic ops = true) : ∀ (fuel t : Nat) (listed : Array Bool), listed.size = ops.size → (unl ops listed).length ≤ fuel →
    LinOk ops (Region.linearise.go .any ops fuel t listed []) ∧ (∀ i ∈ Region.linearise.go .any ops fuel t listed [], listed.getD i true = false) ∧
    (∀ i, i < ops.size → listed.getD i true = false → i ∈ Region.linearise.go .any ops fuel t listed []) := by
  intro fuel
  induction fuel with
  | zero =>
    intro t listed _ hu
    refine ⟨trivial, fun i hi => by simp [Region.linearise.go] at hi, fun i hi hl => ?_⟩
    have : i ∈ unl ops listed := List.mem_filter.2 ⟨List.mem_range.2 hi, by simp only [hl]; rfl⟩
    have := List.length_pos_of_mem this
    omega
  | succ fuel ih =>
    intro t listed hsz hu
    simp only [Region.linearise.go]
    change (LinOk ops (match (Region.ready .any ops listed)[t % (Region.ready .any ops listed).length]? with
      | some i => Region.linearise.go .any ops fuel (t / (Region.ready .any ops listed).length) (listed.setIfInBounds i true) [i]
      | none => [].reverse)) ∧ (∀ i ∈ (match (Region.ready .any ops listed)[t % (Region.ready .any ops listed).length]? with
      | some i => Region.linearise.go .any ops fuel (t / (Region.ready .any ops listed).length) (listed.setIfInBounds i true) [i]
      | none => [].reverse), _) ∧ (∀ i, _ → _ → i ∈ (match (Region.ready .any ops listed)[t % (Region.ready .any ops listed).length]? with
      | some i => Region.linearise.go .any ops fuel (t / (Region.ready .any ops listed).length) (listed.setIfInBounds i true) [i]
      | none => [].reverse))
    cases hi : (Region.ready .any ops listed)[t % (Region.ready .any ops listed).length]? with
    | none =>
      have hnil : Region.ready .any ops listed = [] := by
        cases hr : Region.ready .any ops listed with
        | nil => rfl
        | cons x xs =>
          rw [hr] at hi
          have hlt : t % (x :: xs).length < (x :: xs).length := Nat.mod_lt _ (by simp)
          rw [List.getElem?_eq_getElem hlt] at hi
          cases hi
      refine ⟨trivial, fun i h => by simp at h, ?_⟩
      -- the least that is not listed would be ready
      have key : ∀ n i, i < n → i < ops.size → listed.getD i true = true := by
        intro n
        induction n with
        | zero => intro i h; omega
        | succ n ihn =>
          intro i h hisz
          cases hl : listed.getD i true with
          | true => rfl
          | false =>
            exfalso
            have : i ∈ Region.ready .any ops listed := mem_ready.2 ⟨hl, ops[i], Array.getElem?_eq_getElem hisz, fun e he hb => by
              have h1 := List.all_eq_true.1 hac i (List.mem_range.2 hisz)
              rw [Array.getElem?_eq_getElem hisz] at h1
              have h2 := List.all_eq_true.1 h1 e (by simpa using he)
              simp only [hb, Bool.not_true, Bool.false_or] at h2
              have h3 := blt_lt h2
              have h4 := ihn e.on (by omega) (by omega)
              simpa [Array.getD, show e.on < listed.size by omega] using h4⟩
            rw [hnil] at this
            cases this
      intro i hisz hl
      rw [key (i + 1) i (by omega) hisz] at hl
      cases hl
    | some i =>
      have hmem := List.mem_of_getElem? hi
      obtain ⟨hl, o, ho, hdeps⟩ := mem_ready.1 hmem
      have hisz : i < ops.size := (Array.getElem?_eq_some_iff.1 ho).1
      simp only []
      rw [linearise_go_acc, List.reverse_singleton, List.singleton_append]
      have hset : ∀ j, j ≠ i → (listed.setIfInBounds i true).getD j true = listed.getD j true := fun j hj => getD_set_ne true (Ne.symm hj)
      have hseti : (listed.setIfInBounds i true).getD i true = true := by
        simp [Array.getD, show i < listed.size by omega]
      have hlt : (unl ops (listed.setIfInBounds i true)).length < (unl ops listed).length := by
        refine filter_lt _ _ (fun x hx => ?_) _ i (List.mem_range.2 hisz) (by simp only [hl]; rfl) (by simp only [hseti]; rfl)
        by_cases hxi : x = i
        · subst hxi; rw [hseti] at hx; cases hx
        · rw [hset x hxi] at hx; exact hx
      obtain ⟨h1, h2, h3⟩ := ih (t / (Region.ready .any ops listed).length) (listed.setIfInBounds i true) (by simp [hsz]) (by omega)
      have hni : i ∉ Region.linearise.go .any ops fuel (t / (Region.ready .any ops listed).length) (listed.setIfInBounds i true) [] := fun q => by
        have := h2 i q
        rw [hseti] at this
        cases this
      refine ⟨⟨⟨o, ho, fun e he hb q => ?_⟩, hni, h1⟩, fun j hj => ?_, fun j hj hlj => ?_⟩
      · have h4 := hdeps e he hb
        rcases List.mem_cons.1 q with q | q
        · rw [q] at h4
          have h5 := hl
          simp only [Array.getD] at h4 h5
          split at h4 <;> simp_all
        · have h5 := h2 e.on q
          by_cases hei : e.on = i
          · rw [hei, hseti] at h5; cases h5
          · rw [hset _ hei] at h5
            simp only [Array.getD] at h4 h5
            split at h4 <;> simp_all
      · cases hj with
        | head => exact hl
        | tail _ hj =>
          have h5 := h2 j hj
          by_cases hji : j = i
          · subst hji; exact hl
          · rw [hset _ hji] at h5; exact h5
      · by_cases hji : j = i
        · subst hji; simp
        · exact List.mem_cons_of_mem _ (h3 j hj (by rw [hset _ hji]; exact hlj))

theorem lin_start (ops : Array Oper) (hac : acyclic ops = true) (t : Nat) : LinOk ops (Region.schedule true ops t) ∧ ∀ i, i < ops.size → i ∈ Region.schedule true ops t := by
  have hrep : ∀ i, i < ops.size → (Array.replicate ops.size false).getD i true = false := fun i hi => by simp [Array.getD, hi]
  have h := go_lin ops hac ops.size t (Array.replicate ops.size false) (by simp) (by
    unfold unl
    exact Nat.le_trans (List.length_filter_le _ _) (by simp))
  have e : Region.schedule true ops t = Region.linearise.go .any ops ops.size t (Array.replicate ops.size false) [] := rfl
  rw [e]
  exact ⟨h.1, fun i hi => h.2.2 i hi (hrep i hi)⟩

end
end Go.Ev
