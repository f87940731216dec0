/- The evaluator's machine and the model's: frames, calls, returns, panics. -/
import Derived.Test.YtnlpbmifjdkejaaGreatDoorFvL
import Derived.Scope
import Derived.Recover
namespace Go.Ev
noncomputable section
open Go.RowKit (Below)
variable {P : Program}

/-! frames -/
def kindOf (kd : Bool) : CallKind := match kd with
  | true => .deferred
  | false => .normal

inductive DsR (P : Program) (φ : Phi) : List (FuncId × List Value) → List Deferred → Prop
  | nil : DsR P φ [] []
  | cons {d : FuncId × List Value} {d' : Deferred} {l : List (FuncId × List Value)} {l' : List Deferred} (h : DfR P φ d d') (hl : DsR P φ l l') : DsR P φ (d :: l) (d' :: l')
theorem DsR.mono {φ φ' : Phi} (hle : φ.le φ') {l : List (FuncId × List Value)} {l' : List Deferred} (h : DsR P φ l l') : DsR P φ' l l' := by
  induction h with
  | nil => exact .nil
  | cons h _ ih => exact .cons (h.mono hle) ih

inductive ChR (φ : Phi) : List (Value × Bool) → List PanicEntry → Prop
  | nil : ChR φ [] []
  | cons {v v' : Value} {b : Bool} {l : List (Value × Bool)} {l' : List PanicEntry} (h : VR φ v v') (hl : ChR φ l l') : ChR φ ((v, b) :: l) ({ v := v', recovered := b } :: l')
theorem ChR.mono {φ φ' : Phi} (hle : φ.le φ') {l : List (Value × Bool)} {l' : List PanicEntry} (h : ChR φ l l') : ChR φ' l l' := by
  induction h with
  | nil => exact .nil
  | cons h _ ih => exact .cons (h.mono hle) ih
theorem ChR.append {φ : Phi} {a b : List (Value × Bool)} {a' b' : List PanicEntry} (h : ChR φ a a') (h' : ChR φ b b') : ChR φ (a ++ b) (a' ++ b') := by
  induction h with
  | nil => exact h'
  | cons h _ ih => exact .cons h ih
theorem ChR.noexit {φ : Phi} {l : List (Value × Bool)} {l' : List PanicEntry} (h : ChR φ l l') : l'.dropWhile (!·.goexit) = [] := by
  induction h with
  | nil => rfl
  | cons _ _ ih => simpa [List.dropWhile] using ih

/-- A frame at hand. -/
def RunA (P : Program) (φ : Phi) (H : T OB) (f : Fr) (tmps : Array Value) (todo : List Item) (lo hi : Nat) : Prop := match f.dr with
  | none => todo = f.todo ∧ TRm φ (fun _ => False) f.tm tmps
  | some d => ∃ π done lds κ, todo = .inRegion d.1 π :: f.todo ∧ DrawC P φ H f.tm tmps d.1 done lds d.2 π κ lo hi ∧ LoadP P H f.tm d.1 done π
/-- A frame that waits for a call. -/
def RunS (P : Program) (φ : Phi) (H : T OB) (f : Fr) (tmps : Array Value) (todo : List Item) (lo hi : Nat) : Prop := match f.dr with
  | none => todo = f.todo ∧ TRm φ (fun _ => False) f.tm tmps
  | some d => ∃ i chk rest π done lds κ o, d.2 = (i, chk) :: rest ∧ todo = .inRegion d.1 (i :: π) :: f.todo ∧ d.1[i]? = some o ∧ (isRd o.op || isAl o.op) = false ∧
        DrawC P φ H f.tm tmps d.1 done lds d.2 (i :: π) κ lo hi
def fbOf (c : Cf) (ds : List Deferred) : FB := ⟨c.fn, kindOf c.kd, ds⟩

inductive FrR (P : Program) (φ : Phi) (H : T OB) (susp : Bool) : Fr → Frame → Nat → Nat → Prop
  | run {c : Cf} {tm : T Value} {todo : List Item} {dr : Option (Array Oper × List (Nat × List Nat))} {tmps : Array Value} {ds : List Deferred} {todo' : List Item} {lo hi : Nat}
      (hsz : tmps.size = c.nt) (hds : DsR P φ c.df ds) (h : bif susp then RunS P φ H ⟨c, tm, todo, dr, .run⟩ tmps todo' lo hi else RunA P φ H ⟨c, tm, todo, dr, .run⟩ tmps todo' lo hi) :
      FrR P φ H susp ⟨c, tm, todo, dr, .run⟩ (mkF (fbOf c ds) tmps todo') lo hi
  | ret {c : Cf} {tm : T Value} {todo : List Item} {dr : Option (Array Oper × List (Nat × List Nat))} {tmps : Array Value} {ds : List Deferred} {todo' : List Item} {lo hi : Nat}
      (hsz : tmps.size = c.nt) (hds : DsR P φ c.df ds) (h : TRm φ (fun _ => False) tm tmps) :
      FrR P φ H susp ⟨c, tm, todo, dr, .ret⟩ { mkF (fbOf c ds) tmps todo' with mode := .returning } lo hi
  | pan {c : Cf} {tm : T Value} {todo : List Item} {dr : Option (Array Oper × List (Nat × List Nat))} {tmps : Array Value} {ds : List Deferred} {todo' : List Item} {lo hi : Nat} {l : List (Value × Bool)} {chain : List PanicEntry}
      (hsz : tmps.size = c.nt) (hds : DsR P φ c.df ds) (hch : ChR φ l chain) (h : TRm φ (fun _ => False) tm tmps ∨ (susp = false ∧ c.df = [])) :
      FrR P φ H susp ⟨c, tm, todo, dr, .pan l⟩ { mkF (fbOf c ds) tmps todo' with mode := .panicking chain } lo hi

inductive SR (P : Program) (φ : Phi) (H : T OB) : List Fr → List Frame → Nat → Prop
  | nil (hi : Nat) : SR P φ H [] [] hi
  | cons {f : Fr} {fr : Frame} {lo hi : Nat} {fs : List Fr} {frs : List Frame} (hf : FrR P φ H true f fr lo hi) (hlo : lo ≤ hi) (h : SR P φ H fs frs lo) : SR P φ H (f :: fs) (fr :: frs) hi

theorem FrR.stable {φ φ' : Phi} {H H' : T OB} {f : Fr} {fr : Frame} {lo hi : Nat} (h : FrR P φ H true f fr lo hi) (hle : φ.le φ')
    (hk : ∀ k, k < hi → φ[k]? = some none → φ'[k]? = some none ∧ hp H' k = hp H k) : FrR P φ' H' true f fr lo hi := by
  cases h with
  | ret hsz hds h => exact .ret hsz (hds.mono hle) (h.mono hle)
  | pan hsz hds hch h => exact .pan hsz (hds.mono hle) (hch.mono hle) (h.imp (TRm.mono hle) id)
  | @run c tm todo dr tmps ds todo' _ _ hsz hds h =>
    refine .run hsz (hds.mono hle) ?_
    have h : RunS P φ H ⟨c, tm, todo, dr, .run⟩ tmps todo' lo hi := h
    show RunS P φ' H' ⟨c, tm, todo, dr, .run⟩ tmps todo' lo hi
    cases dr with
    | none => exact ⟨h.1, h.2.mono hle⟩
    | some d =>
      obtain ⟨i, chk, rest, π, done, lds, κ, o, a, b, c, e, hD⟩ := h
      exact ⟨i, chk, rest, π, done, lds, κ, o, a, b, c, e, hD.stable hle hk⟩

theorem SR.stable {φ φ' : Phi} {H H' : T OB} {fs : List Fr} {frs : List Frame} {hi : Nat} (h : SR P φ H fs frs hi) (hle : φ.le φ')
    (hk : ∀ k, k < hi → φ[k]? = some none → φ'[k]? = some none ∧ hp H' k = hp H k) : SR P φ' H' fs frs hi := by
  induction h with
  | nil hi => exact .nil hi
  | cons hf hlo _ ih => exact .cons (hf.stable hle hk) hlo (ih fun k hk' => hk k (by omega))

def botFn (c : FuncId) (stk : List Fr) : FuncId := match stk.getLast? with
  | some f => f.c.fn
  | none => c
theorem botFn_push (c : FuncId) (f : Fr) (stk : List Fr) : botFn c (f :: stk) = botFn f.c.fn stk := by
  unfold botFn
  cases stk with
  | nil => rfl
  | cons g l => rw [List.getLast?_cons_cons]; rw [List.getLast?_eq_some_getLast (by simp)]

/-- What stands around the frame at hand. -/
structure Cx (P : Program) (W : World) (f0 : FuncId) (φ : Phi) (H : T OB) (nx lo : Nat) (fn : FuncId) (stk : List Fr) (frs : List Frame) (w : World) : Prop where
  hH : HR P W φ (hp H) w
  hnx : φ.length = nx
  hlo : lo ≤ nx
  hS : SR P φ H stk frs lo
  hb : botFn fn stk = f0

def MR (P : Program) (W : World) (f0 : FuncId) (s : St) (fr : Frame) (frs : List Frame) (w : World) : Prop :=
  ∃ φ lo, Cx P W f0 φ s.H s.nx lo s.cur.c.fn s.stk frs w ∧ FrR P φ s.H false s.cur fr lo s.nx

/-- What our step comes to, in the model. -/
def RO (P : Program) (W : World) (f0 : FuncId) (cs : List Frame) (r : Res) (fr : Frame) (frs : List Frame) (w : World) : Prop := match r with
  | .go s => ∃ fr' frs' w', Steps P (lone fr (frs ++ cs) w) (lone fr' (frs' ++ cs) w') ∧ MR P W f0 s fr' frs' w'
  | .done v _ => frs = [] ∧ ∃ fr' w' φ v', Steps P (lone fr cs w) (lone fr' cs w') ∧ fr'.leaving P w' (.returned v') ∧ fr'.fn = f0 ∧ VR φ v v' ∧ Below W.heap.size W w'
  | .bad _ => True

variable {W w w' : World} {f0 fn : FuncId} {cs frs frs' : List Frame} {r : Res} {fr fr' : Frame} {φ φ' : Phi} {H H' : T OB} {nx nx' nt lo hi : Nat} {tm : T Value} {tmps : Array Value} {ops : Array Oper}
  {stk : List Fr} {todo k : List Item} {c : Cf} {ds : List Deferred}

theorem RO.steps (hs : Steps P (lone fr (frs ++ cs) w) (lone fr' (frs ++ cs) w')) (h : RO P W f0 cs r fr' frs w') : RO P W f0 cs r fr frs w := by
  cases r with
  | go s =>
    obtain ⟨a, b, c, d, e⟩ := h
    exact ⟨a, b, c, hs.trans d, e⟩
  | done v H =>
    obtain ⟨rfl, a, b, c, d, e, g⟩ := h
    exact ⟨rfl, a, b, c, d, Steps.trans hs e, g⟩
  | bad z => trivial
/-- The same where the callers are others. -/
theorem RO.stepsG (hs : Steps P (lone fr (frs ++ cs) w) (lone fr' (frs' ++ cs) w')) (hnd : ∀ v H, r ≠ .done v H) (h : RO P W f0 cs r fr' frs' w') : RO P W f0 cs r fr frs w := by
  cases r with
  | go s =>
    obtain ⟨a, b, c, d, e⟩ := h
    exact ⟨a, b, c, hs.trans d, e⟩
  | done v H => exact absurd rfl (hnd v H)
  | bad z => trivial
theorem RO.optK {α : Type} {x : Option α} {g : α → Res} {z : String} (h : ∀ a, x = some a → RO P W f0 cs (g a) fr frs w) : RO P W f0 cs (Ev.optK x g (.bad z)) fr frs w := by
  cases x with
  | none => trivial
  | some a => exact h a rfl
theorem RO.bK {b : Bool} {x y : Res} (h : b = true → RO P W f0 cs x fr frs w) (h' : b = false → RO P W f0 cs y fr frs w) : RO P W f0 cs (Ev.bK b x y) fr frs w := by
  cases b
  · exact h' rfl
  · exact h rfl
theorem RO.putK {dst : Option Tmp} {v : Value} {g : T Value → Res} {z : String} (h : (∀ d, dst = some d → d < nt) → RO P W f0 cs (g (tmPut tm dst v)) fr frs w) :
    RO P W f0 cs (Ev.putK nt tm dst v g (.bad z)) fr frs w := by
  cases dst with
  | none => exact h (fun d hd => by cases hd)
  | some d =>
    show RO P W f0 cs (bif Nat.blt d nt then setK (bits d) tm (some v) g else .bad z) fr frs w
    cases hb : Nat.blt d nt with
    | false => trivial
    | true =>
      show RO P W f0 cs (setK (bits d) tm (some v) g) fr frs w
      rw [setK_set]
      exact h (fun d' hd => by cases hd; exact blt_lt hb)

theorem Cx.next (c : Cx P W f0 φ H nx lo fn stk frs w) (hle : φ.le φ') (hk : ∀ k, k < lo → φ[k]? = some none → φ'[k]? = some none ∧ hp H' k = hp H k) (hH : HR P W φ' (hp H') w') (hl : φ'.length = nx') (hn : nx ≤ nx') :
    Cx P W f0 φ' H' nx' lo fn stk frs w' := ⟨hH, hl, by have := c.hlo; omega, c.hS.stable hle hk, c.hb⟩

theorem Cx.go {f : Fr} (x : Cx P W f0 φ H nx lo f.c.fn stk frs w) (h : FrR P φ H false f fr lo nx) : RO P W f0 cs (.go ⟨f, stk, H, nx⟩) fr frs w :=
  ⟨_, frs, w, .refl _ _, φ, lo, x, h⟩
/-- On with a frame that runs, outside a region with a draw. -/
theorem Cx.goN (x : Cx P W f0 φ H nx lo c.fn stk frs w) (hsz : tmps.size = c.nt) (hds : DsR P φ c.df ds) (htr : TRm φ (fun _ => False) tm tmps) :
    RO P W f0 cs (.go ⟨⟨c, tm, k, none, .run⟩, stk, H, nx⟩) (mkF (fbOf c ds) tmps k) frs w :=
  Cx.go x (.run hsz hds ⟨rfl, htr⟩)

theorem le_len (hle : φ.le φ') (hk : Keep φ φ' (hp H) (hp H')) : φ.length ≤ φ'.length := by
  rcases Nat.eq_zero_or_pos φ.length with h | h
  · omega
  · have hlt : φ.length - 1 < φ.length := by omega
    have hq := List.getElem?_eq_getElem hlt
    cases hx : φ[φ.length - 1] with
    | none => rw [hx] at hq; have := (List.getElem?_eq_some_iff.1 (hk _ hq).1).1; omega
    | some e => rw [hx] at hq; have := (List.getElem?_eq_some_iff.1 (hle _ _ hq)).1; omega

/-! a call -/
theorem enter_ok (x : Cx P W f0 φ H nx lo fn stk frs w) {g : FuncId} {kd : Bool} {args args' : List Value} (hl : LR φ args args') {f : Fr} {frS : Frame} (hfn : f.c.fn = fn) (hf : FrR P φ H true f frS lo nx) {z : String}
    (hs : Steps P (lone fr (frs ++ cs) w) (lone (Frame.enter P g args'.toArray (kindOf kd)) (frS :: (frs ++ cs)) w)) :
    RO P W f0 cs (enterK P g kd args (fun n => .go ⟨n, f :: stk, H, nx⟩) (.bad z)) fr frs w := by
  unfold enterK
  cases hg : P.funcs[g]? with
  | none => trivial
  | some fd =>
    cases hb : fd.body with
    | none => simp only [hb]; trivial
    | some cd =>
      simp only [hb]
      cases hn : Nat.ble args.length fd.ntmps with
      | false => trivial
      | true =>
        show RO P W f0 cs (fromLK args 0 .leaf fun tm => .go ⟨⟨⟨g, fd.ntmps, kd, []⟩, tm, [.code cd], none, .run⟩, f :: stk, H, nx⟩) fr frs w
        rw [fromLK_fromL]
        have hn := ble_le hn
        have hlen := hl.len
        have e : Frame.enter P g args'.toArray (kindOf kd) = mkF (fbOf ⟨g, fd.ntmps, kd, []⟩ []) (args'.toArray ++ Array.replicate (fd.ntmps - args'.toArray.size) undef) [.code cd] := by
          simp [Frame.enter, hg, hb, mkF, fbOf]
        rw [e] at hs
        subst hfn
        refine ⟨_, frS :: frs, w, hs, φ, nx, ⟨x.hH, x.hnx, Nat.le_refl _, .cons hf x.hlo x.hS, ?_⟩, .run ?_ .nil ⟨rfl, ?_⟩⟩
        · show botFn g (f :: stk) = f0
          rw [botFn_push]; exact x.hb
        · show (args'.toArray ++ Array.replicate (fd.ntmps - args'.toArray.size) undef).size = fd.ntmps
          simp only [Array.size_append, List.size_toArray, Array.size_replicate]
          omega
        · intro t v hv
          have hv : (fromL args 0 .leaf).get (bits t) = some v := hv
          rw [get_fromL] at hv
          split at hv
          · rename_i ht
            rw [Nat.sub_zero] at hv
            obtain ⟨v', h1, h2⟩ := hl.get hv
            refine .inr ⟨v', ?_, h2⟩
            have : t < args'.toArray.size := by simp; omega
            rw [Array.getElem?_append_left this]
            simpa using h1
          · rw [get_leaf] at hv; cases hv

/-! the end of a call -/
def rvF (tmps : Array Value) : ResultVar → Sem Value
  | .tmp t => pure (tmps.getD t undef)
  | .cell a t => do loadVar t (← asAddr (tmps.getD a undef))
theorem resGo_sound (hH : HR P W φ (hp H) w) (htr : TRm φ (fun _ => False) tm tmps) : ∀ (l : List ResultVar) (vs : List Value), resGo P H tm l = some vs →
    ∃ vs', LR φ vs vs' ∧ (l.mapM (rvF tmps)).run P w = .ok vs' w
  | [], vs, h => by cases h; exact ⟨[], .nil, rfl⟩
  | .tmp t :: l, vs, h => by
    unfold resGo at h
    cases hv : tm.get (bits t) with
    | none => rw [hv] at h; cases h
    | some v =>
      rw [hv] at h
      cases hr : resGo P H tm l with
      | none => simp only [hr] at h; cases h
      | some us =>
        simp only [hr] at h
        cases h
        obtain ⟨us', h1, h2⟩ := resGo_sound hH htr l us hr
        obtain ⟨v', h3, h4⟩ := (htr t v hv).resolve_left id
        refine ⟨v' :: us', .cons h4 h1, ?_⟩
        have e : tmps.getD t undef = v' := by simp [Array.getD_eq_getD_getElem?, h3]
        simp only [List.mapM_cons, rvF, Sem.run_bind, Sem.run_pure, Result.andThen_ok, e, h2]
  | .cell a t :: l, vs, h => by
    unfold resGo at h
    obtain ⟨b, off, hv, h⟩ := ptrK_inv h
    cases hl : loadO P H t b off with
    | none => simp only [hl] at h; cases h
    | some v =>
      simp only [hl] at h
      cases hr : resGo P H tm l with
      | none => simp only [hr] at h; cases h
      | some us =>
        simp only [hr] at h
        cases h
        obtain ⟨us', h1, h2⟩ := resGo_sound hH htr l us hr
        obtain ⟨pv, h3, h4⟩ := (htr a _ hv).resolve_left id
        obtain ⟨e, hb, _, rfl⟩ := h4.ptr_inv
        obtain ⟨v', h5, h6⟩ := loadO_sound hH hb hl
        refine ⟨v' :: us', .cons h5 h1, ?_⟩
        have e1 : tmps.getD a undef = .pointer (some ⟨e.r, off, none⟩) := by simp [Array.getD_eq_getD_getElem?, h3]
        simp only [List.mapM_cons, rvF, Sem.run_bind, e1, asAddr, Sem.run_pure, Result.andThen_ok, h6, h2]

theorem results_sound (hH : HR P W φ (hp H) w) (htr : TRm φ (fun _ => False) tm tmps) {f : Func} {v : Value} (h : resultsO P H f tm = some v) :
    ∃ v', VR φ v v' ∧ (results f tmps).run P w = .ok v' w := by
  unfold resultsO at h
  cases hr : resGo P H tm f.results.toList with
  | none => rw [hr] at h; cases h
  | some vs =>
    rw [hr] at h
    obtain ⟨vs', h1, h2⟩ := resGo_sound hH htr _ vs hr
    have h3 : (results f tmps).run P w = .ok (if h : vs'.toArray.size = 1 then vs'.toArray[0] else .tuple vs'.toArray) w := by
      have e : results f tmps = (do let vs ← f.results.mapM (rvF tmps); pure (if h : vs.size = 1 then vs[0] else .tuple vs)) := rfl
      rw [e, Sem.run_bind, Array.mapM_eq_mapM_toList, Sem.run_map, h2]
      rfl
    cases vs with
    | nil =>
      cases h1.nil_inv
      cases h
      exact ⟨.tuple #[], .flat _ rfl, h3⟩
    | cons a l =>
      obtain ⟨a', l', rfl, h4, h5⟩ := h1.inv
      cases l with
      | nil =>
        cases h5.nil_inv
        cases h
        exact ⟨a', h4, h3⟩
      | cons b m =>
        cases h
        obtain ⟨b', m', rfl, _, _⟩ := h5.inv
        refine ⟨.tuple (a' :: b' :: m').toArray, h1.tuple, ?_⟩
        rw [h3, dif_neg (by simp)]

theorem ret_ok (x : Cx P W f0 φ H nx lo fn stk frs w) {kd : Bool} {v v' : Value} (hv : VR φ v v') {frl : Frame} (hfn : frl.fn = fn) (hk : frl.kind = kindOf kd) (hg : frl.going P w (.returned v'))
    (hs : Steps P (lone fr (frs ++ cs) w) (lone frl (frs ++ cs) w)) : RO P W f0 cs (retK P kd stk H nx v) fr frs w := by
  have hle : kd = false → frl.leaving P w (.returned v') := fun q => by
    subst q
    obtain ⟨a, b, c⟩ := hg
    exact ⟨a, b, hk, c⟩
  unfold retK
  cases hS : x.hS with
  | nil hi => exact RO.bK (fun _ => trivial) fun q => ⟨rfl, frl, w, φ, v', hs, hle q, hfn.trans x.hb, hv, x.hH.below⟩
  | @cons f frC lo' hi fs frs' hf hlo' hrest =>
    have cN : ∀ {c : Cf}, f.c = c → Cx P W f0 φ H nx lo' c.fn fs frs' w := fun hc => ⟨x.hH, x.hnx, by have := x.hlo; omega, hrest, by have := x.hb; rw [botFn_push, hc] at this; exact this⟩
    -- back in the frame that had deferred
    have back : kd = true → ∀ {fr2 : Frame} {f2 : Fr}, f2.c = f.c → { frC with mode := settle frC.mode } = fr2 → FrR P φ H false f2 fr2 lo' nx → RO P W f0 cs (.go ⟨f2, fs, H, nx⟩) fr (frC :: frs') w := by
      intro q fr2 f2 hc hfr h2
      subst q
      have hst := step_going_returned (P := P) (c := frC) (cs := frs' ++ cs) hk hg
      rw [hfr] at hst
      exact ⟨fr2, frs', w, hs.trans (.one hst), φ, lo', cN hc.symm, h2⟩
    cases hf with
    | @ret c tm todo dr tmps ds todo' _ _ hsz hds h =>
      refine RO.bK (fun q => ?_) (fun _ => trivial)
      exact back q (f2 := ⟨c, tm, todo, dr, .ret⟩) rfl rfl (.ret hsz hds h)
    | @pan c tm todo dr tmps ds todo' _ _ l chain hsz hds hch h =>
      refine RO.bK (fun q => ?_) (fun _ => trivial)
      have htr : TRm φ (fun _ => False) tm tmps := h.resolve_right (fun q => by cases q.1)
      show RO P W f0 cs (.go ⟨⟨c, tm, todo, dr, mdBack (.pan l)⟩, fs, H, nx⟩) fr _ w
      cases hch with
      | nil => exact back q (f2 := ⟨c, tm, todo, dr, .pan []⟩) rfl rfl (.pan hsz hds .nil (.inl htr))
      | @cons u u' b l l' hu hl =>
        cases b with
        | false => exact back q (f2 := ⟨c, tm, todo, dr, .pan ((u, false) :: l)⟩) rfl rfl (.pan hsz hds (.cons hu hl) (.inl htr))
        | true =>
          refine back q (f2 := ⟨c, tm, todo, dr, .ret⟩) rfl ?_ (.ret (ds := ds) (todo' := todo') hsz hds htr)
          have := hl.noexit
          simp only [settle, this]
    | @run c tm todo dr tmps ds todo' _ _ hsz hds h =>
      have h : RunS P φ H ⟨c, tm, todo, dr, .run⟩ tmps todo' lo' lo := h
      refine RO.bK (fun _ => trivial) (fun q => ?_)
      have hret : ∀ {opsx : Array Oper} {i : Nat} {rest : List Nat} {kx : List Item} {o : Oper}, todo' = .inRegion opsx (i :: rest) :: kx → opsx[i]? = some o →
          Steps P (lone fr ((mkF (fbOf c ds) tmps todo' :: frs') ++ cs) w) (lone (mkF (fbOf c ds) (putA tmps o.dst v') (.inRegion opsx rest :: kx)) (frs' ++ cs) w) := by
        intro opsx i rest kx o ht ho
        subst ht
        have := step_leave_returned (P := P) (c := mkF (fbOf c ds) tmps (.inRegion opsx (i :: rest) :: kx)) (cs := frs' ++ cs) (hle q)
        rw [fin_mk ho] at this
        exact hs.trans (.one this)
      cases dr with
      | none =>
        obtain ⟨ht, htr⟩ := h
        have ht : todo' = todo := ht
        subst ht
        show RO P W f0 cs (retN c tm todo' fs H nx v) fr _ w
        unfold retN
        split
        · rename_i opsx i rest kx
          refine RO.optK fun o ho => ?_
          unfold retR
          refine RO.putK fun hd => ?_
          refine RO.stepsG (hret rfl ho) (fun _ _ h => by cases h) ?_
          exact (cN rfl).goN (by rw [putA_size]; exact hsz) hds (htr.put (fun d h => by rw [hsz]; exact hd d h) hv fun t h _ => h)
        · trivial
      | some d =>
        obtain ⟨opsx, pl⟩ := d
        obtain ⟨i, chk, rest, π, done, lds, κ, o, hpl, ht, ho, hE, hD⟩ := h
        have hpl : pl = (i, chk) :: rest := hpl
        subst hpl
        have ho : opsx[i]? = some o := ho
        show RO P W f0 cs (Ev.optK opsx[i]? (retE P c tm opsx chk rest todo fs H nx v) (.bad "ret: no op")) fr _ w
        rw [ho]
        show RO P W f0 cs (Ev.putK c.nt tm o.dst v (fun tm => goE P c tm opsx chk rest todo fs H nx) (.bad "put")) fr _ w
        refine RO.putK fun hd => ?_
        unfold goE
        refine RO.bK (fun hchk => ?_) (fun _ => trivial)
        refine RO.stepsG (hret ht ho) (fun _ _ h => by cases h) ?_
        obtain ⟨h1, h2⟩ := hD.finish (H' := H) ho hE φ.le_refl (fun k _ h => ⟨h, rfl⟩) (show lo ≤ nx from x.hlo) hv (fun d h => by rw [hsz]; exact hd d h) hchk
        exact Cx.go (f := ⟨c, tmPut tm o.dst v, todo, some (opsx, rest), .run⟩) (cN rfl) (.run (by rw [putA_size]; exact hsz) hds ⟨_, _, _, _, rfl, h1, h2⟩)

theorem out_ok (x : Cx P W f0 φ H nx lo c.fn stk frs w) (htr : TRm φ (fun _ => False) tm tmps) {frl : Frame} (hm : frl = { mkF (fbOf c []) tmps todo with mode := .returning })
    (hs : Steps P (lone fr (frs ++ cs) w) (lone frl (frs ++ cs) w)) : RO P W f0 cs (outS P c tm stk H nx) fr frs w := by
  subst hm
  unfold outS
  refine RO.optK fun f hf => RO.optK fun v hv => ?_
  obtain ⟨v', h1, h2⟩ := results_sound x.hH htr hv
  exact ret_ok x h1 rfl rfl ⟨rfl, rfl, f, hf, h2⟩ hs

theorem leave_ok (x : Cx P W f0 φ H nx lo c.fn stk frs w) (hsz : tmps.size = c.nt) (hds : DsR P φ c.df ds) (htr : TRm φ (fun _ => False) tm tmps) (ht : todo = [] ∨ ∃ k, todo = .code .ret :: k) :
    RO P W f0 cs (leaveS P c tm stk H nx) (mkF (fbOf c ds) tmps todo) frs w := by
  have hs : Steps P (lone (mkF (fbOf c ds) tmps todo) (frs ++ cs) w) (lone { mkF (fbOf c ds) tmps todo with mode := .returning } (frs ++ cs) w) := by
    rcases ht with rfl | ⟨k, rfl⟩
    · exact .one (step_end (b := mkF (fbOf c ds) #[] []) (a := ⟨tmps, ds⟩))
    · exact .one (step_ret (b := mkF (fbOf c ds) #[] []) (a := ⟨tmps, ds⟩))
  unfold leaveS
  split
  · rename_i hdf
    rw [hdf] at hds
    cases hds
    exact out_ok x htr rfl hs
  · exact RO.steps hs (Cx.go (f := ⟨c, tm, [], none, .ret⟩) x (.ret hsz hds htr))

/-! panics, deferred calls -/
theorem stepU_ok {md : Md} (hmd : md ≠ .run) {dr : Option (Array Oper × List (Nat × List Nat))} (x : Cx P W f0 φ H nx lo c.fn stk frs w) (hf : FrR P φ H false ⟨c, tm, todo, dr, md⟩ fr lo nx) :
    RO P W f0 cs (stepU P c tm md stk H nx) fr frs w := by
  obtain ⟨fn, nt, kd, df⟩ := c
  unfold stepU
  cases df with
  | cons d dfs =>
    obtain ⟨g, args⟩ := d
    -- the deferred call is entered
    have enter : ∀ {frx : Frame} {d' : Deferred} {ds' : List Deferred}, frx.mode ≠ .run → frx.defers = d' :: ds' → DfR P φ (g, args) d' →
        FrR P φ H true ⟨⟨fn, nt, kd, dfs⟩, tm, [], none, md⟩ { frx with defers := ds' } lo nx →
        RO P W f0 cs (enterK P g true args (fun n => .go ⟨n, ⟨⟨fn, nt, kd, dfs⟩, tm, [], none, md⟩ :: stk, H, nx⟩) (.bad "enter")) frx frs w := by
      intro frx d' ds' hm hd hdf hfS
      obtain ⟨a', cap', rfl, hLR, hok⟩ := hdf
      have hinv : (invoke (.fn (.func g) ⟨cap'⟩) a').run P w = .ok (.enter g (a' ++ ⟨cap'⟩)) w := run_callFunc hok _ _
      have hst := step_defer (P := P) (cs := frs ++ cs) hm hd rfl hinv
      have e : (a' ++ ⟨cap'⟩ : Array Value) = (a'.toList ++ cap').toArray := Array.ext' (by simp)
      rw [e] at hst
      exact enter_ok x hLR (f := ⟨⟨fn, nt, kd, dfs⟩, tm, [], none, md⟩) rfl hfS (.one hst)
    cases hf with
    | run _ _ _ => exact absurd rfl hmd
    | ret hsz hds h =>
      cases hds with
      | cons hd hl => exact enter (by simp) rfl hd (.ret hsz hl h)
    | pan hsz hds hch h =>
      cases hds with
      | cons hd hl => exact enter (by simp) rfl hd (.pan hsz hl hch (.inl (h.resolve_right (fun q => by cases q.2))))
  | nil =>
    cases hf with
    | run _ _ _ => exact absurd rfl hmd
    | @ret _ _ _ _ tmps ds todo' _ _ hsz hds h =>
      cases hds
      exact out_ok x h rfl (.refl _ _)
    | @pan _ _ _ _ tmps ds todo' _ _ l chain hsz hds hch h =>
      cases hds
      refine RO.optK fun fd hfd => ?_
      unfold raiseK
      cases hS : x.hS with
      | nil hi => trivial
      | @cons f frC lo' hi fs frs' hfC hlo' hrest =>
        have hst := step_going_panicked (P := P) (fr := { mkF (fbOf ⟨fn, nt, kd, []⟩ []) tmps todo' with mode := .panicking chain }) (c := frC) (cs := frs' ++ cs) (w := w) (chain := chain) ⟨rfl, rfl, fd, hfd⟩
        obtain ⟨c2, tm2, todo2, dr2, md2⟩ := f
        show RO P W f0 cs (Ev.bK (isSomeD dr2 && !c2.df.isEmpty) (.bad "a panic through a region with a draw") (.go ⟨⟨c2, tm2, [], none, .pan (panJoin md2 l)⟩, fs, H, nx⟩)) _ _ w
        refine RO.bK (fun _ => trivial) (fun hq => ?_)
        have cN : Cx P W f0 φ H nx lo' c2.fn fs frs' w := ⟨x.hH, x.hnx, by have := x.hlo; omega, hrest, by have := x.hb; rw [botFn_push] at this; exact this⟩
        refine RO.stepsG (.one hst) (fun _ _ h => by cases h) ?_
        cases hfC with
        | ret hsz2 hds2 h2 => exact Cx.go (f := ⟨c2, tm2, [], none, .pan l⟩) cN (.pan hsz2 hds2 hch (.inl h2))
        | pan hsz2 hds2 hch2 h2 => exact Cx.go (f := ⟨c2, tm2, [], none, _⟩) cN (.pan hsz2 hds2 (hch.append hch2) (.inl (h2.resolve_right (fun q => by cases q.1))))
        | @run _ _ _ _ tmps2 ds2 todo2' _ _ hsz2 hds2 h2 =>
          refine Cx.go (f := ⟨c2, tm2, [], none, .pan l⟩) cN (.pan (ds := ds2) (tmps := tmps2) (todo' := todo2') hsz2 hds2 hch ?_)
          cases dr2 with
          | none => exact .inl h2.2
          | some d =>
            right
            refine ⟨rfl, ?_⟩
            have : (!c2.df.isEmpty) = false := hq
            cases hdf : c2.df with
            | nil => rfl
            | cons a b => rw [hdf] at this; cases this
end
end Go.Ev
