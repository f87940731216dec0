/- The evaluator's machine and the model's: what our step comes to. -/
import Derived.Test.YtgfiajgofihpnaaEvL
import Derived.Scope
namespace Go.Ev
noncomputable section
open Go.RowKit (Below)
variable {P : Program}

/-! frames -/
def FrA (P : Program) (φ : Phi) (H : T OB) (f : Fr) (tmps : Array Value) (todo : List Item) (lo hi : Nat) : Prop :=
  tmps.size = f.nt ∧ match f.dr with
    | none => todo = f.todo ∧ TRm φ (fun _ => False) f.tm tmps
    | some d => ∃ π done lds κ, todo = .inRegion d.1 π :: f.todo ∧ DrawC P φ H f.tm tmps d.1 done lds d.2 π κ lo hi ∧ LoadP P H f.tm d.1 done π

def FrS (P : Program) (φ : Phi) (H : T OB) (f : Fr) (tmps : Array Value) (todo : List Item) (lo hi : Nat) : Prop :=
  tmps.size = f.nt ∧ match f.dr with
    | none => todo = f.todo ∧ TRm φ (fun _ => False) f.tm tmps
    | some d => ∃ i chk rest π done lds κ o, d.2 = (i, chk) :: rest ∧ todo = .inRegion d.1 (i :: π) :: f.todo ∧ d.1[i]? = some o ∧ (isRd o.op || isAl o.op) = false ∧
        DrawC P φ H f.tm tmps d.1 done lds d.2 (i :: π) κ lo hi

inductive SR (P : Program) (φ : Phi) (H : T OB) : List Fr → List Frame → Nat → Prop
  | nil (hi : Nat) : SR P φ H [] [] hi
  | cons {f : Fr} {tmps : Array Value} {todo : List Item} {lo hi : Nat} {fs : List Fr} {frs : List Frame} (hf : FrS P φ H f tmps todo lo hi) (hlo : lo ≤ hi) (h : SR P φ H fs frs lo) :
      SR P φ H (f :: fs) (mkF f.fn tmps todo :: frs) hi

theorem SR.stable {φ φ' : Phi} {H H' : T OB} {fs : List Fr} {frs : List Frame} {hi : Nat} (h : SR P φ H fs frs hi) (hle : φ.le φ')
    (hk : ∀ k, k < hi → φ[k]? = some none → φ'[k]? = some none ∧ hp H' k = hp H k) : SR P φ' H' fs frs hi := by
  induction h with
  | nil hi => exact .nil hi
  | @cons f tmps todo lo hi fs frs hf hlo _ ih =>
    refine .cons ?_ hlo (ih fun k hk' => hk k (by omega))
    obtain ⟨h1, h2⟩ := hf
    refine ⟨h1, ?_⟩
    cases hd : f.dr with
    | none => rw [hd] at h2; exact ⟨h2.1, h2.2.mono hle⟩
    | some d =>
      rw [hd] at h2
      obtain ⟨i, chk, rest, π, done, lds, κ, o, a, b, c, e, hD⟩ := h2
      exact ⟨i, chk, rest, π, done, lds, κ, o, a, b, c, e, hD.stable hle hk⟩

def botFn (c : FuncId) (stk : List Fr) : FuncId := match stk.getLast? with
  | some f => f.fn
  | none => c
theorem botFn_push (c : FuncId) (f : Fr) (stk : List Fr) : botFn c (f :: stk) = botFn f.fn stk := by
  unfold botFn
  cases stk with
  | nil => rfl
  | cons g l => rw [List.getLast?_cons_cons]; rw [List.getLast?_eq_some_getLast (by simp)]

/-- What stands around the frame at hand. -/
structure Cx (P : Program) (W : World) (f0 : FuncId) (φ : Phi) (H : T OB) (nx lo : Nat) (fn : FuncId) (stk : List Fr) (frs : List Frame) (w : World) : Prop where
  hH : HR P W φ (hp H) w
  hnx : φ.length = nx
  hlo : lo ≤ nx
  hS : SR P φ H stk frs lo
  hb : botFn fn stk = f0

def MR (P : Program) (W : World) (f0 : FuncId) (s : St) (fr : Frame) (frs : List Frame) (w : World) : Prop :=
  ∃ φ tmps todo lo, fr = mkF s.cur.fn tmps todo ∧ Cx P W f0 φ s.H s.nx lo s.cur.fn s.stk frs w ∧ FrA P φ s.H s.cur tmps todo lo s.nx

/-- What our step comes to, in the model. -/
def RO (P : Program) (W : World) (f0 : FuncId) (cs : List Frame) (r : Res) (fr : Frame) (frs : List Frame) (w : World) : Prop := match r with
  | .go s => ∃ fr' frs' w', Steps P (lone fr (frs ++ cs) w) (lone fr' (frs' ++ cs) w') ∧ MR P W f0 s fr' frs' w'
  | .done v _ => frs = [] ∧ ∃ fr' w' φ v', Steps P (lone fr cs w) (lone fr' cs w') ∧ fr'.leaving P w' (.returned v') ∧ fr'.fn = f0 ∧ VR φ v v' ∧ Below W.heap.size W w'
  | .bad _ => True

variable {W w w' : World} {f0 fn : FuncId} {cs frs : List Frame} {r : Res} {fr fr' : Frame} {φ φ' : Phi} {H H' : T OB} {nx nx' nt lo hi : Nat} {tm : T Value} {tmps : Array Value} {ops : Array Oper}
  {stk : List Fr} {todo k : List Item}

theorem RO.steps (hs : Steps P (lone fr (frs ++ cs) w) (lone fr' (frs ++ cs) w')) (h : RO P W f0 cs r fr' frs w') : RO P W f0 cs r fr frs w := by
  cases r with
  | go s =>
    obtain ⟨a, b, c, d, e⟩ := h
    exact ⟨a, b, c, hs.trans d, e⟩
  | done v H =>
    obtain ⟨rfl, a, b, c, d, e, g⟩ := h
    exact ⟨rfl, a, b, c, d, Steps.trans hs e, g⟩
  | bad z => trivial
theorem RO.optK {α : Type} {x : Option α} {g : α → Res} {z : String} (h : ∀ a, x = some a → RO P W f0 cs (g a) fr frs w) : RO P W f0 cs (Ev.optK x g (.bad z)) fr frs w := by
  cases x with
  | none => trivial
  | some a => exact h a rfl
theorem RO.bK {b : Bool} {x y : Res} (h : b = true → RO P W f0 cs x fr frs w) (h' : b = false → RO P W f0 cs y fr frs w) : RO P W f0 cs (Ev.bK b x y) fr frs w := by
  cases b
  · exact h' rfl
  · exact h rfl
theorem RO.putK {dst : Option Tmp} {v : Value} {g : T Value → Res} {z : String} (h : (∀ d, dst = some d → d < nt) → RO P W f0 cs (g (tmPut tm dst v)) fr frs w) :
    RO P W f0 cs (Ev.putK nt tm dst v g (.bad z)) fr frs w := by
  cases dst with
  | none => exact h (fun d hd => by cases hd)
  | some d =>
    show RO P W f0 cs (bif Nat.blt d nt then valF v (fun v => setK (bits d) tm (some v) g) else .bad z) fr frs w
    cases hb : Nat.blt d nt with
    | false => trivial
    | true =>
      show RO P W f0 cs (valF v (fun v => setK (bits d) tm (some v) g)) fr frs w
      rw [valF_eq, setK_set]
      exact h (fun d' hd => by cases hd; exact blt_lt hb)

theorem Cx.next (c : Cx P W f0 φ H nx lo fn stk frs w) (hle : φ.le φ') (hk : ∀ k, k < lo → φ[k]? = some none → φ'[k]? = some none ∧ hp H' k = hp H k) (hH : HR P W φ' (hp H') w') (hl : φ'.length = nx') (hn : nx ≤ nx') :
    Cx P W f0 φ' H' nx' lo fn stk frs w' := ⟨hH, hl, by have := c.hlo; omega, c.hS.stable hle hk, c.hb⟩

theorem Cx.go (c : Cx P W f0 φ H nx lo fn stk frs w) {dr : Option (Array Oper × List (Nat × List Nat))} (h : FrA P φ H ⟨fn, nt, tm, k, dr⟩ tmps todo lo nx) :
    RO P W f0 cs (.go ⟨⟨fn, nt, tm, k, dr⟩, stk, H, nx⟩) (mkF fn tmps todo) frs w :=
  ⟨_, frs, w, .refl _ _, φ, tmps, todo, lo, rfl, c, h⟩

theorem EfOk.le (h : φ.length = nx) {r : Result Next} {v : Value} {nx' : Nat} (he : EfOk P W φ H w r v H' nx') : True := trivial

theorem le_len (hle : φ.le φ') (hk : Keep φ φ' (hp H) (hp H')) : φ.length ≤ φ'.length := by
  rcases Nat.eq_zero_or_pos φ.length with h | h
  · omega
  · have hlt : φ.length - 1 < φ.length := by omega
    have hq := List.getElem?_eq_getElem hlt
    cases hx : φ[φ.length - 1] with
    | none => rw [hx] at hq; have := (List.getElem?_eq_some_iff.1 (hk _ hq).1).1; omega
    | some e => rw [hx] at hq; have := (List.getElem?_eq_some_iff.1 (hle _ _ hq)).1; omega

/-! a call -/
theorem enter_ok (c : Cx P W f0 φ H nx lo fn stk frs w) {g : FuncId} {args args' : List Value} (hl : LR φ args args') {f : Fr} (hfn : f.fn = fn) {todo : List Item} (hf : FrS P φ H f tmps todo lo nx) {z : String}
    (hs : Steps P (lone fr (frs ++ cs) w) (lone (Frame.enter P g args'.toArray .normal) (mkF fn tmps todo :: (frs ++ cs)) w)) :
    RO P W f0 cs (enterK P g args (fun n => .go ⟨n, f :: stk, H, nx⟩) (.bad z)) fr frs w := by
  unfold enterK
  cases hg : P.funcs[g]? with
  | none => trivial
  | some fd =>
    cases hb : fd.body with
    | none => simp only [hb]; trivial
    | some cd =>
      simp only [hb]
      cases hn : Nat.ble args.length fd.ntmps with
      | false => trivial
      | true =>
        show RO P W f0 cs (fromLK args 0 .leaf fun tm => .go ⟨⟨g, fd.ntmps, tm, [.code cd], none⟩, f :: stk, H, nx⟩) fr frs w
        rw [fromLK_fromL]
        have hn := ble_le hn
        have hlen := hl.len
        have e : Frame.enter P g args'.toArray .normal = mkF g (args'.toArray ++ Array.replicate (fd.ntmps - args'.toArray.size) undef) [.code cd] := by
          simp [Frame.enter, hg, hb, mkF]
        rw [e] at hs
        subst hfn
        refine ⟨_, mkF f.fn tmps todo :: frs, w, hs, φ, _, _, nx, rfl, ⟨c.hH, c.hnx, Nat.le_refl _, .cons hf c.hlo c.hS, ?_⟩, ?_, rfl, ?_⟩
        · show botFn g (f :: stk) = f0
          rw [botFn_push]; exact c.hb
        · show (args'.toArray ++ Array.replicate (fd.ntmps - args'.toArray.size) undef).size = fd.ntmps
          simp only [Array.size_append, List.size_toArray, Array.size_replicate]
          omega
        · intro t v hv
          have hv : (fromL args 0 .leaf).get (bits t) = some v := hv
          rw [get_fromL] at hv
          split at hv
          · rename_i ht
            rw [Nat.sub_zero] at hv
            obtain ⟨v', h1, h2⟩ := hl.get hv
            refine .inr ⟨v', ?_, h2⟩
            have : t < args'.toArray.size := by simp; omega
            rw [Array.getElem?_append_left this]
            simpa using h1
          · rw [get_leaf] at hv; cases hv

/-! the end of a call -/
def rvF (tmps : Array Value) : ResultVar → Sem Value
  | .tmp t => pure (tmps.getD t undef)
  | .cell a t => do loadVar t (← asAddr (tmps.getD a undef))
theorem resGo_sound (hH : HR P W φ (hp H) w) (htr : TRm φ (fun _ => False) tm tmps) : ∀ (l : List ResultVar) (vs : List Value), resGo P H tm l = some vs →
    ∃ vs', LR φ vs vs' ∧ (l.mapM (rvF tmps)).run P w = .ok vs' w
  | [], vs, h => by cases h; exact ⟨[], .nil, rfl⟩
  | .tmp t :: l, vs, h => by
    unfold resGo at h
    cases hv : tm.get (bits t) with
    | none => rw [hv] at h; cases h
    | some v =>
      rw [hv] at h
      cases hr : resGo P H tm l with
      | none => simp only [hr] at h; cases h
      | some us =>
        simp only [hr] at h
        cases h
        obtain ⟨us', h1, h2⟩ := resGo_sound hH htr l us hr
        obtain ⟨v', h3, h4⟩ := (htr t v hv).resolve_left id
        refine ⟨v' :: us', .cons h4 h1, ?_⟩
        have e : tmps.getD t undef = v' := by simp [Array.getD_eq_getD_getElem?, h3]
        simp only [List.mapM_cons, rvF, Sem.run_bind, Sem.run_pure, Result.andThen_ok, e, h2]
  | .cell a t :: l, vs, h => by
    unfold resGo at h
    obtain ⟨b, off, hv, h⟩ := ptrK_inv h
    cases hl : loadO P H t b off with
    | none => simp only [hl] at h; cases h
    | some v =>
      simp only [hl] at h
      cases hr : resGo P H tm l with
      | none => simp only [hr] at h; cases h
      | some us =>
        simp only [hr] at h
        cases h
        obtain ⟨us', h1, h2⟩ := resGo_sound hH htr l us hr
        obtain ⟨pv, h3, h4⟩ := (htr a _ hv).resolve_left id
        obtain ⟨e, hb, _, rfl⟩ := h4.ptr_inv
        obtain ⟨v', h5, h6⟩ := loadO_sound hH hb hl
        refine ⟨v' :: us', .cons h5 h1, ?_⟩
        have e1 : tmps.getD a undef = .pointer (some ⟨e.r, off, none⟩) := by simp [Array.getD_eq_getD_getElem?, h3]
        simp only [List.mapM_cons, rvF, Sem.run_bind, e1, asAddr, Sem.run_pure, Result.andThen_ok, h6, h2]

theorem results_sound (hH : HR P W φ (hp H) w) (htr : TRm φ (fun _ => False) tm tmps) {f : Func} {v : Value} (h : resultsO P H f tm = some v) :
    ∃ v', VR φ v v' ∧ (results f tmps).run P w = .ok v' w := by
  unfold resultsO at h
  cases hr : resGo P H tm f.results.toList with
  | none => rw [hr] at h; cases h
  | some vs =>
    rw [hr] at h
    obtain ⟨vs', h1, h2⟩ := resGo_sound hH htr _ vs hr
    have h3 : (results f tmps).run P w = .ok (if h : vs'.toArray.size = 1 then vs'.toArray[0] else .tuple vs'.toArray) w := by
      have e : results f tmps = (do let vs ← f.results.mapM (rvF tmps); pure (if h : vs.size = 1 then vs[0] else .tuple vs)) := rfl
      rw [e, Sem.run_bind, Array.mapM_eq_mapM_toList, Sem.run_map, h2]
      rfl
    cases vs with
    | nil =>
      cases h1.nil_inv
      cases h
      exact ⟨.tuple #[], .flat _ rfl, h3⟩
    | cons a l =>
      obtain ⟨a', l', rfl, h4, h5⟩ := h1.inv
      cases l with
      | nil =>
        cases h5.nil_inv
        cases h
        exact ⟨a', h4, h3⟩
      | cons b m =>
        cases h
        obtain ⟨b', m', rfl, _, _⟩ := h5.inv
        refine ⟨.tuple (a' :: b' :: m').toArray, h1.tuple, ?_⟩
        rw [h3, dif_neg (by simp)]

theorem ret_ok (c : Cx P W f0 φ H nx lo fn stk frs w) {v v' : Value} (hv : VR φ v v') {frl : Frame} (hfn : frl.fn = fn) (hl : frl.leaving P w (.returned v'))
    (hs : Steps P (lone fr (frs ++ cs) w) (lone frl (frs ++ cs) w)) : RO P W f0 cs (retK P stk H nx v) fr frs w := by
  unfold retK
  cases hS : c.hS with
  | nil hi =>
    show RO P W f0 cs (valF v fun v => .done v H) fr [] w
    rw [valF_eq]
    exact ⟨rfl, frl, w, φ, v', hs, hl, hfn.trans c.hb, hv, c.hH.below⟩
  | @cons f tmps todo lo' hi fs frs' hf hlo' hrest =>
    obtain ⟨ffn, fnt, ftm, ftodo, fdr⟩ := f
    show RO P W f0 cs (retF P ⟨ffn, fnt, ftm, ftodo, fdr⟩ fs H nx v) fr (mkF ffn tmps todo :: frs') w
    have hret : ∀ {opsx : Array Oper} {i : Nat} {rest : List Nat} {kx : List Item} {o : Oper}, todo = .inRegion opsx (i :: rest) :: kx → opsx[i]? = some o →
        Steps P (lone fr ((mkF ffn tmps todo :: frs') ++ cs) w) (lone (mkF ffn (putA tmps o.dst v') (.inRegion opsx rest :: kx)) (frs' ++ cs) w) := by
      intro opsx i rest kx o ht ho
      subst ht
      have := step_leave_returned (P := P) (c := mkF ffn tmps (.inRegion opsx (i :: rest) :: kx)) (cs := frs' ++ cs) hl
      rw [fin_mk ho] at this
      exact hs.trans (.one this)
    have cN : Cx P W f0 φ H nx lo' ffn fs frs' w := ⟨c.hH, c.hnx, by have := c.hlo; omega, hrest, by have := c.hb; rw [botFn_push] at this; exact this⟩
    have go : ∀ {r : Res} {tmps2 : Array Value} {todo2 : List Item}, Steps P (lone fr ((mkF ffn tmps todo :: frs') ++ cs) w) (lone (mkF ffn tmps2 todo2) (frs' ++ cs) w) →
        (∀ v H, r ≠ .done v H) → RO P W f0 cs r (mkF ffn tmps2 todo2) frs' w → RO P W f0 cs r fr (mkF ffn tmps todo :: frs') w := by
      intro r tmps2 todo2 hs2 hnd hr
      cases r with
      | go s =>
        obtain ⟨a, b, cc, d, e⟩ := hr
        exact ⟨a, b, cc, hs2.trans d, e⟩
      | done v H => exact absurd rfl (hnd v H)
      | bad z => trivial
    obtain ⟨hsz, hfd⟩ := hf
    cases fdr with
    | none =>
      obtain ⟨ht, htr⟩ := hfd
      have ht : todo = ftodo := ht
      show RO P W f0 cs (retN ffn fnt ftm ftodo fs H nx v) fr (mkF ffn tmps todo :: frs') w
      subst ht
      unfold retN
      split
      · rename_i opsx i rest kx
        refine RO.optK fun o ho => ?_
        refine RO.putK fun hd => ?_
        refine go (hret rfl ho) (fun _ _ h => by cases h) ?_
        have hsz : tmps.size = fnt := hsz
        refine cN.go ⟨by rw [putA_size]; exact hsz, rfl, ?_⟩
        exact htr.put (fun d h => by rw [hsz]; exact hd d h) hv fun t h _ => h
      · trivial
    | some d =>
      obtain ⟨opsx, pl⟩ := d
      obtain ⟨i, chk, rest, π, done, lds, κ, o, hpl, ht, ho, hE, hD⟩ := hfd
      have hpl : pl = (i, chk) :: rest := hpl
      subst hpl
      show RO P W f0 cs (retD P ffn fnt ftm opsx ((i, chk) :: rest) ftodo fs H nx v) fr (mkF ffn tmps todo :: frs') w
      have ho : opsx[i]? = some o := ho
      show RO P W f0 cs (Ev.optK opsx[i]? (fun o => putE P ffn fnt ftm opsx chk rest ftodo fs H nx o.dst v) (.bad "ret: no op")) fr (mkF ffn tmps todo :: frs') w
      rw [ho]
      show RO P W f0 cs (Ev.putK fnt ftm o.dst v (fun tm => goE P ffn fnt tm opsx chk rest ftodo fs H nx) (.bad "put")) fr (mkF ffn tmps todo :: frs') w
      refine RO.putK fun hd => ?_
      unfold goE
      refine RO.bK (fun hchk => ?_) (fun _ => trivial)
      refine go (hret ht ho) (fun _ _ h => by cases h) ?_
      have hsz : tmps.size = fnt := hsz
      obtain ⟨h1, h2⟩ := hD.finish (H' := H) ho hE φ.le_refl (fun k _ h => ⟨h, rfl⟩) (show lo ≤ nx from c.hlo) hv (fun d h => by rw [hsz]; exact hd d h) hchk
      exact cN.go ⟨by rw [putA_size]; exact hsz, _, _, _, _, rfl, h1, h2⟩

theorem leave_ok (c : Cx P W f0 φ H nx lo fn stk frs w) (htr : TRm φ (fun _ => False) tm tmps) (ht : todo = [] ∨ ∃ k, todo = .code .ret :: k) :
    RO P W f0 cs (leaveS P fn tm stk H nx) (mkF fn tmps todo) frs w := by
  unfold leaveS
  refine RO.optK fun f hf => RO.optK fun v hv => ?_
  obtain ⟨v', h1, h2⟩ := results_sound c.hH htr hv
  refine ret_ok (frl := { mkF fn tmps todo with mode := .returning }) c h1 rfl ⟨rfl, rfl, rfl, f, hf, h2⟩ (.one ?_)
  rcases ht with rfl | ⟨k, rfl⟩
  · exact step_end (b := mkF fn #[] []) (a := ⟨tmps, []⟩)
  · exact step_ret (b := mkF fn #[] []) (a := ⟨tmps, []⟩)
end
end Go.Ev
