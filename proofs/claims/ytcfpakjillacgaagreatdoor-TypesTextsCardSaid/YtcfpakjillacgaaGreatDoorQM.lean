/- The evaluator's calls and the model's: frames, what is held by value from some point on, the end of a call. -/
import Derived.Test.YtcfpakjillacgaaGreatDoorQL
import Derived.Scope
import Derived.Recover
namespace Go.Ev
noncomputable section
open Go.RowKit (Below)
variable {P : Program}

/-! frames -/
def kindOf (kd : Bool) : CallKind := match kd with
  | true => .deferred
  | false => .normal

inductive DsR (P : Program) (φ : Phi) : List (FuncId × List Value) → List Deferred → Prop
  | nil : DsR P φ [] []
  | cons {d : FuncId × List Value} {d' : Deferred} {l : List (FuncId × List Value)} {l' : List Deferred} (h : DfR P φ d d') (hl : DsR P φ l l') : DsR P φ (d :: l) (d' :: l')
theorem DsR.mono {φ φ' : Phi} (hle : φ.le φ') {l : List (FuncId × List Value)} {l' : List Deferred} (h : DsR P φ l l') : DsR P φ' l l' := by
  induction h with
  | nil => exact .nil
  | cons h _ ih => exact .cons (h.mono hle) ih


def fbOf (c : Cg) (ds : List Deferred) : FB := ⟨c.fn, kindOf c.kd, ds⟩
def modeOf (m : Option Value) : FrameMode := match m with
  | none => .returning
  | some v => .panicking [{ v, recovered := false }]
/-- The panic of the frame that deferred has been ended. -/
def markC : List Frame → List Frame
  | C :: r => (match C.mode with
    | .panicking ({ v, recovered := false, goexit := false } :: older) => { C with mode := .panicking ({ v, recovered := true } :: older) } :: r
    | _ => C :: r)
  | [] => []
def csAt (rc : Bool) (cs : List Frame) : List Frame := match rc with
  | true => markC cs
  | false => cs
/-- What a deferred call can end. -/
def RcvR (φ : Phi) (kd : Bool) (rp : Option Value) (rc : Bool) (cs0 : List Frame) : Prop := kd = true → match rp with
  | some v => rc = false ∧ ∃ C r v' older, cs0 = C :: r ∧ C.mode = .panicking ({ v := v', recovered := false, goexit := false } :: older) ∧ VR φ v v'
  | none => ∀ F : Frame, F.kind = .deferred → tryRecover F (csAt rc cs0) = none
theorem RcvR.mono {φ φ' : Phi} (hle : φ.le φ') {kd : Bool} {rp : Option Value} {rc : Bool} {cs0 : List Frame} (h : RcvR φ kd rp rc cs0) : RcvR φ' kd rp rc cs0 := fun q => by
  have := h q
  cases rp with
  | none => exact this
  | some v =>
    obtain ⟨a, C, r, v', older, b, c, d⟩ := this
    exact ⟨a, C, r, v', older, b, c, d.mono hle⟩

theorem rcv_normal {F : Frame} {cs : List Frame} (h : F.kind = .normal) : tryRecover F cs = none := by
  unfold tryRecover
  rw [h]
theorem rcv_deferred {F C : Frame} {cs : List Frame} (h : F.kind = .deferred) : tryRecover F (C :: cs) = (match C.mode with
    | .panicking ({ v, recovered := false, goexit := false } :: older) => some (v, { C with mode := .panicking ({ v, recovered := true } :: older) } :: cs)
    | _ => none) := by
  conv => lhs; unfold tryRecover
  rw [h]
  rfl
theorem rcv_mark {F : Frame} {cs : List Frame} (h : F.kind = .deferred) : tryRecover F (markC cs) = none := by
  cases cs with
  | nil => unfold tryRecover; rw [h]; rfl
  | cons C r =>
    show tryRecover F (match C.mode with
    | .panicking ({ v, recovered := false, goexit := false } :: older) => { C with mode := .panicking ({ v, recovered := true } :: older) } :: r
    | _ => C :: r) = none
    split
    · rw [rcv_deferred h]
    · rename_i hn
      rw [rcv_deferred h]
      split
      · rename_i v older q
        exact absurd q (hn v older)
      · rfl
theorem markC_run {C : Frame} {r : List Frame} (h : ∀ l, C.mode ≠ .panicking l) : markC (C :: r) = C :: r := by
  show (match C.mode with
    | .panicking ({ v, recovered := false, goexit := false } :: older) => { C with mode := .panicking ({ v, recovered := true } :: older) } :: r
    | _ => C :: r) = C :: r
  split
  · rename_i q; exact absurd q (h _)
  · rfl
theorem csAt_run {C : Frame} {r : List Frame} (rc : Bool) (h : ∀ l, C.mode ≠ .panicking l) : csAt rc (C :: r) = C :: r := by
  cases rc
  · rfl
  · exact markC_run h

/-- How a call has ended. -/
def OutOK (P : Program) (φ : Phi) (o : Out) (fr : Frame) (w : World) : Prop := match o with
  | .ret v => ∃ v', VR φ v v' ∧ fr.going P w (.returned v')
  | .pan v => ∃ v', VR φ v v' ∧ fr.going P w (.panicked [{ v := v', recovered := false }])

variable {W w w' w1 : World} {f fn : FuncId} {cs cs0 : List Frame} {r : Rt} {fr fr' fr1 : Frame} {φ φ' φ1 : Phi} {H H' H1 : T OB} {nx nx' nx1 nt lo hi : Nat} {tm : T Value} {tmps : Array Value} {ops : Array Oper}
  {todo k : List Item} {c : Cg} {ds : List Deferred} {kd : Bool} {O : Cfg → Option Rt}

def FinOK (P : Program) (W : World) (kd : Bool) (fn : FuncId) (lo : Nat) (cs0 : List Frame) (rc : Bool) (φ : Phi) (H : T OB) (r : Rt) (fr : Frame) (w : World) : Prop :=
  ∃ φ' w' frl, Steps P (lone fr (csAt rc cs0) w) (lone frl (csAt r.rc cs0) w') ∧ φ.le φ' ∧ HR P W φ' (hp r.H) w' ∧ φ'.length = r.nx ∧ (∀ k, k < lo → φ[k]? = some none → φ'[k]? = some none ∧ hp r.H k = hp H k) ∧
    frl.kind = kindOf kd ∧ frl.fn = fn ∧ OutOK P φ' r.o frl w'

theorem FinOK.steps {rc rc1 : Bool} (hs : Steps P (lone fr (csAt rc cs0) w) (lone fr1 (csAt rc1 cs0) w1)) (hle : φ.le φ1) (hk : ∀ k, k < lo → φ[k]? = some none → φ1[k]? = some none ∧ hp H1 k = hp H k)
    (h : FinOK P W kd fn lo cs0 rc1 φ1 H1 r fr1 w1) : FinOK P W kd fn lo cs0 rc φ H r fr w := by
  obtain ⟨φ', w', frl, h1, h2, h3, h4, h5, h6, h7, h8⟩ := h
  exact ⟨φ', w', frl, hs.trans h1, Phi.le_trans hle h2, h3, h4, fun k hk' q => ⟨(h5 k hk' (hk k hk' q).1).1, (h5 k hk' (hk k hk' q).1).2.trans (hk k hk' q).2⟩, h6, h7, h8⟩
theorem FinOK.step1 {rc : Bool} (hs : Steps P (lone fr (csAt rc cs0) w) (lone fr1 (csAt rc cs0) w)) (h : FinOK P W kd fn lo cs0 rc φ H r fr1 w) : FinOK P W kd fn lo cs0 rc φ H r fr w :=
  h.steps hs φ.le_refl fun _ _ q => ⟨q, rfl⟩

/-! the tree of a call's questions -/
theorem run_ret {a : Rt} (h : (Q.ret a).run O = some r) : a = r := by cases h; rfl
theorem run_bad (h : Q.bad.run O = some r) : False := by cases h
theorem run_ask {q : Cfg} {g : Rt → Q} (h : (Q.ask q g).run O = some r) : ∃ a, O q = some a ∧ (g a).run O = some r := by
  have h : optK (O q) (fun a => (g a).run O) none = some r := h
  exact optK_inv h
theorem run_jump {q : Cfg} (h : (Q.jump q).run O = some r) : O q = some r := h
theorem run_optK {α : Type} {x : Option α} {g : α → Q} (h : (optK x g .bad).run O = some r) : ∃ a, x = some a ∧ (g a).run O = some r := by
  cases x with
  | none => cases h
  | some a => exact ⟨a, rfl, h⟩
theorem run_bif {b : Bool} {x : Q} (h : (bif b then x else Q.bad).run O = some r) : b = true ∧ x.run O = some r := by
  cases b
  · cases h
  · exact ⟨rfl, h⟩
theorem run_bK {b : Bool} {x y : Q} (h : (bK b x y).run O = some r) : (b = true ∧ x.run O = some r) ∨ (b = false ∧ y.run O = some r) := by
  cases b
  · exact .inr ⟨rfl, h⟩
  · exact .inl ⟨rfl, h⟩
theorem run_putK {dst : Option Tmp} {v : Value} {g : T Value → Q} (h : (putK nt tm dst v g .bad).run O = some r) : (∀ d, dst = some d → d < nt) ∧ (g (tmPut tm dst v)).run O = some r := by
  cases dst with
  | none => exact ⟨fun d hd => (by cases hd), h⟩
  | some d =>
    obtain ⟨h1, h2⟩ := run_bif (show (bif Nat.blt d nt then setK (bits d) tm (some v) g else Q.bad).run O = some r from h)
    rw [setK_set] at h2
    exact ⟨fun d' hd => by cases hd; exact blt_lt h1, h2⟩
theorem run_putB {t : Bool} {dst : Option Tmp} {v : Value} {g : T Value → Q} (h : (putB P t nt tm dst v g).run O = some r) : (∀ d, dst = some d → d < nt) ∧ (g (tmPut tm dst v)).run O = some r := by
  unfold putB at h
  rcases run_bK h with ⟨_, h1⟩ | ⟨_, h1⟩
  · unfold bvK at h1
    split at h1
    · exact run_putK h1
    · cases h1
  · exact run_putK h1
theorem run_eff {e : Eff} {g : Value → T OB → Nat → Q} (h : (effQ e g).run O = some r) : ∃ v H nx, e = .val v H nx ∧ (g v H nx).run O = some r := by
  cases e with
  | val v H nx => exact ⟨v, H, nx, rfl, h⟩
  | _ => cases h

theorem run_ptrQ {x : Option Value} {g : Nat → Nat → Q} (h : (ptrQ x g).run O = some r) : ∃ b off, x = some (.pointer (some ⟨b, off, none⟩)) ∧ (g b off).run O = some r := by
  unfold ptrQ at h
  split at h
  · exact ⟨_, _, rfl, h⟩
  · cases h
theorem run_cellsQ {x : Option OB} {g : Nat → T Value → TypeId → Q} (h : (cellsQ x g).run O = some r) : ∃ n t e, x = some (.cells n t e) ∧ (g n t e).run O = some r := by
  unfold cellsQ at h
  split at h
  · exact ⟨_, _, _, rfl, h⟩
  · cases h

theorem set_same {α : Type} (v : α) : ∀ (bs : List Bool) (t : T α), t.get bs = some v → set t bs (some v) = t
  | [], .leaf, h => by cases h
  | [], .node x l r, h => by have h : x = some v := h; subst h; rfl
  | b :: bs, .leaf, h => by rw [get_leaf] at h; cases h
  | false :: bs, .node x l r, h => by rw [set_false_node, set_same v bs l h]
  | true :: bs, .node x l r, h => by rw [set_true_node, set_same v bs r h]

theorem run_guard {o : Oper} {yes no : T Value → Q} (h : (guardQ tm ops o.guard yes no).run O = some r) : ∃ b, wantedO tm ops o = some b ∧ (b = true → (yes tm).run O = some r) ∧ (b = false → (no tm).run O = some r) := by
  unfold wantedO
  unfold guardQ at h
  split at h
  · rename_i hg
    exact ⟨true, (by first | rfl | rw [hg]), fun _ => h, fun q => (by cases q)⟩
  · rename_i p hg
    obtain ⟨d, hd, h1⟩ := run_optK h
    show ∃ b, optK (dstOf ops p.1) (fun d => yieldO tm d p.2) none = some b ∧ _
    rw [hd]
    show ∃ b, yieldO tm d p.2 = some b ∧ _
    unfold yieldO
    split at h1
    · rename_i x hx
      rw [setK_set, setK_set, setK_set, setK_set] at h1
      refine ⟨_, rfl, fun q => ?_, fun q => ?_⟩
      · have q : x = p.2 := by simpa using q
        subst q
        rcases run_bK h1 with ⟨h2, h3⟩ | ⟨h2, h3⟩
        · rw [h2] at h3 hx
          have h3 : (yes (set tm (bits d) (some (.bool true)))).run O = some r := h3
          rwa [set_same _ _ _ hx] at h3
        · rw [h2] at h3 hx
          have h3 : (yes (set tm (bits d) (some (.bool false)))).run O = some r := h3
          rwa [set_same _ _ _ hx] at h3
      · have q : x ≠ p.2 := by simpa using q
        rcases run_bK h1 with ⟨h2, h3⟩ | ⟨h2, h3⟩
        · have : x = false := by cases x <;> simp_all
          subst this
          have h3 : (no (set tm (bits d) (some (.bool false)))).run O = some r := h3
          rwa [set_same _ _ _ hx] at h3
        · have : x = true := by cases x <;> simp_all
          subst this
          have h3 : (no (set tm (bits d) (some (.bool true)))).run O = some r := h3
          rwa [set_same _ _ _ hx] at h3
    · rename_i x hx
      exact ⟨false, rfl, fun q => (by cases q), fun _ => h1⟩
    · cases h1

theorem le_len (hle : φ.le φ') (hk : Keep φ φ' (hp H) (hp H')) : φ.length ≤ φ'.length := by
  rcases Nat.eq_zero_or_pos φ.length with h | h
  · omega
  · have hlt : φ.length - 1 < φ.length := by omega
    have hq := List.getElem?_eq_getElem hlt
    cases hx : φ[φ.length - 1] with
    | none => rw [hx] at hq; have := (List.getElem?_eq_some_iff.1 (hk _ hq).1).1; omega
    | some e => rw [hx] at hq; have := (List.getElem?_eq_some_iff.1 (hle _ _ hq)).1; omega


/-! held by value from here on -/
/-- One more block of ours, that none of memory stands for: what a row of the model's holds. -/
theorem HR.ghost {g : Nat → Option OB} (hH : HR P W φ g w) {e : Ent} {c : Array Value} {el : TypeId} {fz : Nat × Nat} (hf : e.fz = some c) (hr : w.heap[e.r]? = some (.cells c el fz))
    (hno : ∀ (k : Nat) (x : Ent) (ob : OB), φ[k]? = some (some x) → g k = some ob → live ob = true → x.r ≠ e.r) : HR P W (φ ++ [some e]) g w where
  below := hH.below
  gl := hH.glob (le_push φ _)
  dom := fun k o h => by have := hH.dom k o h; simp; omega
  rng := fun k x h => by
    rcases push_some h with h | ⟨_, h⟩
    · exact hH.rng k x h
    · cases h; exact (Array.getElem?_eq_some_iff.1 hr).1
  inj := fun k k' o1 o2 x x' h h' hg hg' hl hl' hrr => by
    have l1 := hH.dom k _ hg
    have l2 := hH.dom k' _ hg'
    rcases push_some h with h0 | ⟨hk, _⟩
    · rcases push_some h' with h1 | ⟨hk', _⟩
      · exact hH.inj k k' o1 o2 x x' h0 h1 hg hg' hl hl' hrr
      · omega
    · omega
  obj := fun k oa x hg h => by
    have l1 := hH.dom k _ hg
    rcases push_some h with h0 | ⟨hk, _⟩
    · exact (hH.obj k oa x hg h0).mono (le_push φ _)
    · omega
  fzr := fun k x c' h hf' => by
    rcases push_some h with h1 | ⟨_, hx⟩
    · exact hH.fzr k x c' h1 hf'
    · cases hx; rw [hf] at hf'; cases hf'; exact ⟨el, fz, hr⟩
  fzl := fun k k' x x' c' o h hf' h' hg hl => by
    have l2 := hH.dom k' _ hg
    rcases push_some h' with h2 | ⟨hk', _⟩
    · rcases push_some h with h1 | ⟨_, hx⟩
      · exact hH.fzl k k' x x' c' o h1 hf' h2 hg hl
      · cases hx; exact hno k' x' o h2 hg hl
    · omega

theorem HR.grown {g : Nat → Option OB} (hH : HR P W φ g w) (hb : Below w.heap.size w w') : HR P W φ g w' := by
  have hr : ∀ (k : Nat) (e : Ent), φ[k]? = some (some e) → w'.heap[e.r]? = w.heap[e.r]? := fun k e h => hb.block e.r (hH.rng k e h)
  exact {
    below := hH.below.trans (hb.mono hH.below.size)
    gl := hH.gl
    dom := hH.dom
    rng := fun k e h => Nat.lt_of_lt_of_le (hH.rng k e h) hb.size
    inj := hH.inj
    obj := fun k ob e hg h => (hH.obj k ob e hg h).heap fun _ => hr k e h
    fzr := fun k e c h hf => by obtain ⟨el, fz, q⟩ := hH.fzr k e c h hf; exact ⟨el, fz, by rw [hr k e h]; exact q⟩
    fzl := hH.fzl }

theorem chunk_sound {a : Bool} {s : Nat} : ∀ (n : Nat) (l es : List Value), chunk a s n l = some es → (a = false → s = 1) → (es.all fun x => bK a true (oneCell x)) = true →
    es.length = n ∧ l.length = n * s ∧ (∀ x ∈ es, x.cells.toList.length = s) ∧ ∀ (i j : Nat) (x v : Value), es[i]? = some x → x.cells.toList[j]? = some v → l[i * s + j]? = some v
  | 0, l, es, h, _, _ => by
    obtain ⟨h1, h2⟩ := bif_inv (show (bif l.isEmpty then some [] else none) = some es from h)
    cases h2
    exact ⟨rfl, by rw [List.isEmpty_iff.1 h1]; simp, fun x hx => by simp at hx, fun i j x v hi => by simp at hi⟩
  | n + 1, l, es, h, hs, hone => by
    obtain ⟨h1, h2⟩ := bif_inv (show (bif Nat.ble s l.length then optK (chunk a s n (l.drop s)) (fun r => bK a (some (.agg ⟨l.take s⟩ :: r)) (optK l.head? (fun v => some (v :: r)) none)) none else none) = some es from h)
    have h1 := ble_le h1
    obtain ⟨es', h3, h4⟩ := optK_inv h2
    -- the first element
    have key : ∃ x, es = x :: es' ∧ x.cells.toList = l.take s := by
      cases a with
      | true => have h4 : some (Value.agg ⟨l.take s⟩ :: es') = some es := h4; cases h4; exact ⟨_, rfl, rfl⟩
      | false =>
        have hs := hs rfl
        subst hs
        have h4 : optK l.head? (fun v => some (v :: es')) none = some es := h4
        cases l with
        | nil => simp at h1
        | cons v l =>
          have h4 : some (v :: es') = some es := h4
          cases h4
          refine ⟨v, rfl, ?_⟩
          have hv : oneCell v = true := by
            have := List.all_eq_true.1 hone v (by simp)
            exact this
          cases v <;> first | rfl | cases hv
    obtain ⟨x, rfl, hx⟩ := key
    have hone' : (es'.all fun x => bK a true (oneCell x)) = true := by simp only [List.all_cons, Bool.and_eq_true] at hone; exact hone.2
    obtain ⟨h5, h6, h7, h8⟩ := chunk_sound n _ _ h3 hs hone'
    refine ⟨by simp [h5], ?_, fun y hy => ?_, fun i j y v hi hj => ?_⟩
    · rw [List.length_drop] at h6; rw [Nat.succ_mul]; omega
    · rcases List.mem_cons.1 hy with rfl | hy
      · rw [hx]; simp; omega
      · exact h7 y hy
    · cases i with
      | zero =>
        simp at hi
        subst hi
        rw [hx, List.getElem?_take] at hj
        split at hj
        · simpa using hj
        · cases hj
      | succ i =>
        have hi : es'[i]? = some y := by simpa using hi
        have := h8 i j y v hi hj
        rw [List.getElem?_drop] at this
        rw [Nat.succ_mul, ← this]
        congr 1
        omega

/-- What comes of holding by value. -/
def FrzOK (P : Program) (W : World) (φ : Phi) (H : T OB) (nx : Nat) (w : World) (φ' : Phi) (H' : T OB) (nx' : Nat) : Prop :=
  φ.le φ' ∧ HR P W φ' (hp H') w ∧ φ'.length = nx' ∧ Keep φ φ' (hp H) (hp H') ∧ nx ≤ nx'
theorem FrzOK.refl (hH : HR P W φ (hp H) w) (hnx : φ.length = nx) : FrzOK P W φ H nx w φ H nx := ⟨φ.le_refl, hH, hnx, Keep.refl _ _, Nat.le_refl _⟩
theorem FrzOK.trans {φ'' : Phi} {H'' : T OB} {nx'' : Nat} (h : FrzOK P W φ H nx w φ' H' nx') (h' : FrzOK P W φ' H' nx' w φ'' H'' nx'') : FrzOK P W φ H nx w φ'' H'' nx'' :=
  ⟨Phi.le_trans h.1 h'.1, h'.2.1, h'.2.2.1, h.2.2.2.1.trans h'.2.2.2.1, Nat.le_trans h.2.2.2.2 h'.2.2.2.2⟩

theorem frz1_sound (hH : HR P W φ (hp H) w) (hnx : φ.length = nx) {t : TypeId} {v v' : Value} (hv : VR φ v v') {g : Value → T OB → Nat → Q} (h : (frz1 P t v H nx g).run O = some r) :
    ∃ φ' u H' nx', (g u H' nx').run O = some r ∧ VR φ' u v' ∧ FrzOK P W φ H nx w φ' H' nx' := by
  unfold frz1 at h
  split at h
  case h_3 => exact ⟨φ, v, H, nx, h, hv, .refl hH hnx⟩
  case h_2 =>
    rename_i e hu
    split at h
    · rename_i b
      obtain ⟨x, hx, h1⟩ := run_optK h
      rw [setK_set, natF_eq] at h1
      obtain ⟨en, hb, _, rfl⟩ := hv.ptr_inv
      unfold frzP at hx
      obtain ⟨m, tr, el, hg, h2⟩ := cellsK_inv hx
      obtain ⟨s, hs, h3⟩ := optK_inv h2
      obtain ⟨a, ha, h4⟩ := optK_inv h3
      obtain ⟨h5, h6⟩ := bif_inv h4
      obtain ⟨l, hl, h7⟩ := optK_inv h6
      have hms := beq_eq h5
      have key : ∃ u, x = eptrV u ∧ u.cells.toList = l := by
        cases a with
        | true =>
          have h7 : some (eptrV (.agg ⟨l⟩)) = some x := h7
          cases h7
          exact ⟨_, rfl, rfl⟩
        | false =>
          obtain ⟨u, hu', h8⟩ := optK_inv (show optK l.head? (fun v => bif Nat.beq l.length 1 && oneCell v then some (eptrV v) else none) none = some x from h7)
          obtain ⟨h9, h10⟩ := bif_inv h8
          cases h10
          simp only [Bool.and_eq_true] at h9
          have hl1 := beq_eq h9.1
          refine ⟨u, rfl, ?_⟩
          have hcell : u.cells.toList = [u] := by cases u <;> first | rfl | cases h9.2
          rw [hcell]
          cases l with
          | nil => cases hu'
          | cons y l =>
            cases hu'
            cases l with
            | nil => rfl
            | cons _ _ => simp at hl1
      obtain ⟨u, rfl, hul⟩ := key
      have hg' : hp H b = some (.cells m tr el) := hg
      obtain ⟨c, el', hrow, hrsz, hrn, hrc⟩ := hH.cells hg' hb
      obtain ⟨q1, q2⟩ := row_LR hrc hl (by omega) (by omega)
      have hkill : HR P W φ (hp (set H (bits b) (some .dead))) w := by rw [hp_set]; exact hH.kill hg' hb
      have hgh := hkill.ghost (e := ⟨en.r, en.sz, en.es, some c⟩) rfl hrow (fun k x ob hk hgk hlk hr => by
        rw [hp_set] at hgk
        by_cases hkb : k = b
        · subst hkb; rw [upd_same] at hgk; cases hgk; cases hlk
        · rw [upd_other _ hkb] at hgk
          exact hkb (hH.inj k b _ _ x en hk hb hgk hg' hlk rfl hr))
      refine ⟨_, _, _, _, h1, ?_, le_push φ _, hgh, by simp [hnx], ?_, by omega⟩
      · refine VR.ep (e := ⟨en.r, en.sz, en.es, some c⟩) (c := c) (get_push φ _) rfl (by rw [hul, q2]; omega) (fun j a b' hja hjb => ?_)
        rw [hul] at hja
        have hjl := (List.getElem?_eq_some_iff.1 hja).1
        refine VR.mono (le_push φ _) (q1.at_ j a b' hja ?_)
        rw [List.drop_zero, List.getElem?_take, if_pos (by omega), Array.getElem?_toList]
        rw [Nat.zero_add] at hjb
        exact hjb
      · intro k hk
        refine ⟨?_, ?_⟩
        · rw [List.getElem?_append_left (List.getElem?_eq_some_iff.1 hk).1]; exact hk
        · rw [hp_set, upd_other]
          intro q; subst q; rw [hb] at hk; cases hk
    · exact ⟨φ, v, H, nx, h, hv, .refl hH hnx⟩
  rename_i e hu
  split at h
  · rename_i b off n cp
    obtain ⟨hcp, h⟩ := run_bif h
    simp only [Bool.or_eq_true] at hcp
    obtain ⟨x, hx, h1⟩ := run_optK h
    rw [setK_set, natF_eq] at h1
    obtain ⟨en, c', hb, _, rfl, hcap⟩ := hv.slice_inv
    unfold frzS at hx
    obtain ⟨m, tr, el, hg, h2⟩ := cellsK_inv hx
    obtain ⟨s, hs, h3⟩ := optK_inv h2
    obtain ⟨a, ha, h4⟩ := optK_inv h3
    obtain ⟨h5, h6⟩ := bif_inv h4
    obtain ⟨l, hl, h7⟩ := optK_inv h6
    obtain ⟨es, hes, h8⟩ := optK_inv h7
    obtain ⟨h9, h10⟩ := bif_inv h8
    cases h10
    simp only [Bool.and_eq_true, Bool.or_eq_true] at h5
    have hle := ble_le h5.1.1
    have hs1 : a = false → s = 1 := fun q => by
      rcases h5.2 with q' | q'
      · rw [q] at q'; cases q'
      · exact beq_eq q'
    obtain ⟨g1, g2, g3, g4⟩ := chunk_sound n l es hes hs1 h9
    have hg' : hp H b = some (.cells m tr el) := hg
    obtain ⟨c, el', hrow, hrsz, hrn, hrc⟩ := hH.cells hg' hb
    obtain ⟨q1, q2⟩ := row_LR hrc hl hle (by omega)
    have hcl : n ≤ c' := by
      rcases hcap with ⟨q, rfl⟩ | ⟨_, q, _⟩
      · rcases hcp with h' | h'
        · exact absurd (beq_eq h') q
        · exact ble_le h'
      · exact q
    have hkill : HR P W φ (hp (set H (bits b) (some .dead))) w := by rw [hp_set]; exact hH.kill hg' hb
    have hgh := hkill.ghost (e := ⟨en.r, en.sz, en.es, some c⟩) rfl hrow (fun k x ob hk hgk hlk hr => by
      rw [hp_set] at hgk
      by_cases hkb : k = b
      · subst hkb; rw [upd_same] at hgk; cases hgk; cases hlk
      · rw [upd_other _ hkb] at hgk
        exact hkb (hH.inj k b _ _ x en hk hb hgk hg' hlk rfl hr))
    refine ⟨_, _, _, _, h1, ?_, le_push φ _, hgh, by simp [hnx], ?_, by omega⟩
    · rw [← g1]
      have hlen : es.length * s = n * s := by rw [g1]
      refine VR.row (e := ⟨en.r, en.sz, en.es, some c⟩) (c := c) (get_push φ _) rfl g3 (fun _ => ?_) (by omega) (fun i j x u u' hi hj hc => ?_)
      · rw [hlen]; omega
      · have h11 := g4 i j x u hi hj
        have hlt := (List.getElem?_eq_some_iff.1 h11).1
        refine VR.mono (le_push φ _) (q1.at_ (i * s + j) u u' h11 ?_)
        rw [List.getElem?_take, if_pos (by omega), List.getElem?_drop, Array.getElem?_toList, ← Nat.add_assoc]
        exact hc
    · intro k hk
      refine ⟨?_, ?_⟩
      · rw [List.getElem?_append_left (List.getElem?_eq_some_iff.1 hk).1]; exact hk
      · rw [hp_set, upd_other]
        intro q; subst q; rw [hb] at hk; cases hk
  · rename_i n c
    obtain ⟨h1, h2⟩ := run_bif h
    simp only [Bool.and_eq_true] at h1
    obtain ⟨s, hs, h3⟩ := run_optK h2
    have e1 := beq_eq h1.1
    have e2 := beq_eq h1.2
    subst e1 e2
    have := hv.eq_of_flat rfl
    subst this
    exact ⟨φ, _, H, nx, h3, .row0 s, .refl hH hnx⟩
  · exact ⟨φ, v, H, nx, h, hv, .refl hH hnx⟩

theorem frzF_sound : ∀ (fs : List Field) (cs cs' : List Value) (φ : Phi) (H : T OB) (nx : Nat), HR P W φ (hp H) w → φ.length = nx → LR φ cs cs' → ∀ {g : List Value → T OB → Nat → Q}, (frzF P fs cs H nx g).run O = some r →
    ∃ φ' us H' nx', (g us H' nx').run O = some r ∧ LR φ' us cs' ∧ FrzOK P W φ H nx w φ' H' nx'
  | [], cs, cs', φ, H, nx, hH, hnx, hl, g, h => ⟨φ, cs, H, nx, h, hl, .refl hH hnx⟩
  | f :: fs, cs, cs', φ, H, nx, hH, hnx, hl, g, h => by
    obtain ⟨v, hv, h1⟩ := run_optK (show (optK cs[f.offset]? (fun v => frz1 P f.type v H nx fun v H nx => frzF P fs (cs.set f.offset v) H nx g) .bad).run O = some r from h)
    obtain ⟨v', hv', hvr⟩ := hl.get hv
    obtain ⟨φ1, u, H1, nx1, h2, h3, h4⟩ := frz1_sound hH hnx hvr h1
    have hl1 : LR φ1 (cs.set f.offset u) cs' := by
      have := (hl.mono h4.1).set f.offset h3
      have e : cs'.set f.offset v' = cs' := by
        refine List.ext_getElem? fun i => ?_
        rw [List.getElem?_set]
        by_cases hi : f.offset = i
        · subst hi; rw [if_pos rfl, hv', if_pos (List.getElem?_eq_some_iff.1 hv').1]
        · rw [if_neg hi]
      rw [e] at this
      exact this
    obtain ⟨φ2, us, H2, nx2, h5, h6, h7⟩ := frzF_sound fs _ cs' φ1 H1 nx1 h4.2.1 h4.2.2.1 hl1 h2
    exact ⟨φ2, us, H2, nx2, h5, h6, h4.trans h7⟩

theorem frzV_sound (hH : HR P W φ (hp H) w) (hnx : φ.length = nx) {t : TypeId} {v v' : Value} (hv : VR φ v v') {g : Value → T OB → Nat → Q} (h : (frzV P t v H nx g).run O = some r) :
    ∃ φ' u H' nx', (g u H' nx').run O = some r ∧ VR φ' u v' ∧ FrzOK P W φ H nx w φ' H' nx' := by
  unfold frzV at h
  split at h
  · split at h
    · obtain ⟨c', rfl, h1⟩ := hv.agg_inv
      obtain ⟨φ', us, H', nx', h2, h3, h4⟩ := frzF_sound _ _ _ _ _ _ hH hnx h1 h
      exact ⟨φ', _, H', nx', h2, h3.agg, h4⟩
    · cases h
  · exact frz1_sound hH hnx hv h

theorem frzL_sound (ts : Array TypeId) : ∀ (l : List Nat) (vs vs' : List Value) (φ : Phi) (H : T OB) (nx : Nat), HR P W φ (hp H) w → φ.length = nx → LR φ vs vs' → ∀ {g : List Value → T OB → Nat → Q}, (frzL P ts l vs H nx g).run O = some r →
    ∃ φ' us H' nx', (g us H' nx').run O = some r ∧ LR φ' us vs' ∧ FrzOK P W φ H nx w φ' H' nx'
  | [], cs, cs', φ, H, nx, hH, hnx, hl, g, h => ⟨φ, cs, H, nx, h, hl, .refl hH hnx⟩
  | i :: l, cs, cs', φ, H, nx, hH, hnx, hl, g, h => by
    obtain ⟨t, _, h0⟩ := run_optK (show (optK ts[i]? (fun t => optK cs[i]? (fun v => frzV P t v H nx fun v H nx => frzL P ts l (cs.set i v) H nx g) .bad) .bad).run O = some r from h)
    obtain ⟨v, hv, h1⟩ := run_optK h0
    obtain ⟨v', hv', hvr⟩ := hl.get hv
    obtain ⟨φ1, u, H1, nx1, h2, h3, h4⟩ := frzV_sound hH hnx hvr h1
    have hl1 : LR φ1 (cs.set i u) cs' := by
      have := (hl.mono h4.1).set i h3
      have e : cs'.set i v' = cs' := by
        refine List.ext_getElem? fun j => ?_
        rw [List.getElem?_set]
        by_cases hi : i = j
        · subst hi; rw [if_pos rfl, hv', if_pos (List.getElem?_eq_some_iff.1 hv').1]
        · rw [if_neg hi]
      rw [e] at this
      exact this
    obtain ⟨φ2, us, H2, nx2, h5, h6, h7⟩ := frzL_sound ts l _ cs' φ1 H1 nx1 h4.2.1 h4.2.2.1 hl1 h2
    exact ⟨φ2, us, H2, nx2, h5, h6, h4.trans h7⟩

/-! the end of a call -/
def rvF (tmps : Array Value) : ResultVar → Sem Value
  | .tmp t => pure (tmps.getD t undef)
  | .cell a t => do loadVar t (← asAddr (tmps.getD a undef))
theorem resQ_sound (hH : HR P W φ (hp H) w) (htr : TRm φ (fun _ => False) tm tmps) : ∀ (l : List ResultVar) {g : List Value → Q}, (resQ P H tm l g).run O = some r →
    ∃ vs vs', (g vs).run O = some r ∧ LR φ vs vs' ∧ (l.mapM (rvF tmps)).run P w = .ok vs' w
  | [], g, h => ⟨[], [], h, .nil, rfl⟩
  | .tmp t :: l, g, h => by
    obtain ⟨v, hv, h1⟩ := run_optK (show (optK (tm.get (bits t)) (fun v => resQ P H tm l fun vs => g (v :: vs)) .bad).run O = some r from h)
    obtain ⟨us, us', h2, h3, h4⟩ := resQ_sound hH htr l h1
    obtain ⟨v', h5, h6⟩ := (htr t v hv).resolve_left id
    refine ⟨v :: us, v' :: us', h2, .cons h6 h3, ?_⟩
    have e : tmps.getD t undef = v' := by simp [Array.getD_eq_getD_getElem?, h5]
    simp only [List.mapM_cons, rvF, Sem.run_bind, Sem.run_pure, Result.andThen_ok, e, h4]
  | .cell a t :: l, g, h => by
    obtain ⟨v, hv, h1⟩ := run_optK (show (optK (rdLoad P H t (tm.get (bits a))) (fun v => resQ P H tm l fun vs => g (v :: vs)) .bad).run O = some r from h)
    obtain ⟨us, us', h2, h3, h4⟩ := resQ_sound hH htr l h1
    cases ha : tm.get (bits a) with
    | none => rw [ha] at hv; cases hv
    | some pv =>
      rw [ha] at hv
      obtain ⟨pv', h5, h6⟩ := (htr a pv ha).resolve_left id
      obtain ⟨v', ad, h7, h8, h9⟩ := rdLoad_sound hH (y := pv') (fun u hu => by cases hu; exact h6) hv
      subst h7
      refine ⟨v :: us, v' :: us', h2, .cons h8 h3, ?_⟩
      have e1 : tmps.getD a undef = .pointer (some ad) := by simp [Array.getD_eq_getD_getElem?, h5]
      simp only [List.mapM_cons, rvF, Sem.run_bind, e1, asAddr, Sem.run_pure, Result.andThen_ok, h9, h4]

theorem tupV_VR {vs vs' : List Value} (h : LR φ vs vs') : VR φ (tupV vs) (if h : vs'.toArray.size = 1 then vs'.toArray[0] else .tuple vs'.toArray) := by
  cases vs with
  | nil => cases h.nil_inv; exact .flat _ rfl
  | cons a l =>
    obtain ⟨a', l', rfl, h4, h5⟩ := h.inv
    cases l with
    | nil => cases h5.nil_inv; exact h4
    | cons b m =>
      obtain ⟨b', m', rfl, _, _⟩ := h5.inv
      rw [dif_neg (by simp)]
      exact h.tuple

theorem FrzOK.fin (h : FrzOK P W φ H nx w φ' H' nx') {rc : Bool} (h' : FinOK P W kd fn lo cs0 rc φ' H' r fr w) : FinOK P W kd fn lo cs0 rc φ H r fr w :=
  h'.steps (.refl _ _) h.1 fun k _ q => h.2.2.2.1 k q

theorem outQ_ok {pl : Pol} (hH : HR P W φ (hp H) w) (hnx : φ.length = nx) (hkd : c.kd = kd) (hfn : c.fn = fn) (htr : TRm φ (fun _ => False) tm tmps) (h : (outQ P pl c tm H nx).run O = some r) :
    FinOK P W kd fn lo cs0 c.rc φ H r { mkF (fbOf c []) tmps todo with mode := .returning } w := by
  unfold outQ at h
  obtain ⟨fd, hfd, h1⟩ := run_optK h
  obtain ⟨vs, vs', h2, h3, h4⟩ := resQ_sound hH htr _ h1
  obtain ⟨φ', us, H', nx', h5, h6, h7⟩ := frzL_sound fd.resultTypes _ _ _ φ H nx hH hnx h3 h2
  have h5 := run_ret h5
  subst h5
  have h8 : (results fd tmps).run P w = .ok (if h : vs'.toArray.size = 1 then vs'.toArray[0] else .tuple vs'.toArray) w := by
    have e : results fd tmps = (do let vs ← fd.results.mapM (rvF tmps); pure (if h : vs.size = 1 then vs[0] else .tuple vs)) := rfl
    rw [e, Sem.run_bind, Array.mapM_eq_mapM_toList, Sem.run_map, h4]
    rfl
  refine h7.fin ⟨φ', w, _, .refl _ _, φ'.le_refl, h7.2.1, h7.2.2.1, fun k _ q => ⟨q, rfl⟩, ?_, ?_, _, tupV_VR h6, rfl, rfl, fd, ?_, h8⟩
  · show kindOf c.kd = kindOf kd; rw [hkd]
  · exact hfn
  · exact hfd
end
end Go.Ev
