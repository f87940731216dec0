/- The evaluator's code and the model's: deferred calls, operations, regions. -/
import Derived.Test.YtcfpakjillacgaaGreatDoorQM
namespace Go.Ev
noncomputable section
open Go.RowKit (Below)
variable {P : Program} {W w w' w1 : World} {f fn : FuncId} {cs cs0 : List Frame} {r r1 : Rt} {fr fr' fr1 : Frame} {φ φ' φ1 : Phi} {H H' H1 : T OB} {nx nx' nx1 nt lo hi : Nat} {tm : T Value} {tmps : Array Value} {ops : Array Oper}
  {todo k : List Item} {c : Cg} {ds : List Deferred} {kd : Bool} {O : Cfg → Option Rt} {pl : Pol}

/-- A frame at hand. -/
structure Fx (P : Program) (W : World) (lo : Nat) (cs0 : List Frame) (c : Cg) (φ : Phi) (H : T OB) (nx : Nat) (tmps : Array Value) (ds : List Deferred) (w : World) : Prop where
  hH : HR P W φ (hp H) w
  hnx : φ.length = nx
  hlo : lo ≤ nx
  hsz : tmps.size = c.nt
  hds : DsR P φ c.df ds
  hrc : RcvR φ c.kd c.rp c.rc cs0

def AtOK (P : Program) (W : World) (c : Cg) (tm : T Value) (todo : List Item) (H : T OB) (nx : Nat) (r : Rt) : Prop :=
  ∀ φ w lo tmps ds cs0, Fx P W lo cs0 c φ H nx tmps ds w → TRm φ (fun _ => False) tm tmps → FinOK P W c.kd c.fn lo cs0 c.rc φ H r (mkF (fbOf c ds) tmps todo) w
def CallOK (P : Program) (W : World) (f : FuncId) (args : List Value) (kd : Bool) (rp : Option Value) (H : T OB) (nx : Nat) (r : Rt) : Prop :=
  ∀ φ w args' cs0, HR P W φ (hp H) w → φ.length = nx → LR φ args args' → RcvR φ kd rp false cs0 → FinOK P W kd f nx cs0 false φ H r (Frame.enter P f args'.toArray (kindOf kd)) w
def CfgOK (P : Program) (W : World) (q : Cfg) (r : Rt) : Prop := match q with
  | .call f args kd rp H nx => CallOK P W f args kd rp H nx r
  | .at c tm todo H nx => AtOK P W c tm todo H nx r
def OrcOK (P : Program) (W : World) (O : Cfg → Option Rt) : Prop := ∀ q r, O q = some r → CfgOK P W q r
def KOK (P : Program) (W : World) (O : Cfg → Option Rt) (K : Kt) (todo : List Item) : Prop := ∀ c tm H nx r, (K c tm H nx).run O = some r → AtOK P W c tm todo H nx r

theorem AtOK.step1 {todo' : List Item} (hs : ∀ (ds : List Deferred) (tmps : Array Value) (cs : List Frame) (w : World), Steps P (lone (mkF (fbOf c ds) tmps todo) cs w) (lone (mkF (fbOf c ds) tmps todo') cs w)) (h : AtOK P W c tm todo' H nx r) :
    AtOK P W c tm todo H nx r := fun φ w lo tmps ds cs0 x htr => (h φ w lo tmps ds cs0 x htr).step1 (hs _ _ _ _)

theorem keep_all (hk : ∀ k, k < φ.length → φ[k]? = some none → φ'[k]? = some none ∧ hp H' k = hp H k) : Keep φ φ' (hp H) (hp H') := fun k q => hk k (List.getElem?_eq_some_iff.1 q).1 q

/-! what was deferred -/
inductive MdR (φ : Phi) : Mq → Option Value → Prop
  | ret : MdR φ .ret none
  | pan {v v' : Value} (h : VR φ v v') : MdR φ (.pan v) (some v')

theorem modeOf_ne (m : Option Value) : modeOf m ≠ .run := by cases m <;> simp [modeOf]

theorem unwQ_ok (hO : OrcOK P W O) : ∀ (l : List (FuncId × List Value)) (m : Mq) (mv : Option Value) (φ : Phi) (H : T OB) (nx : Nat) (ds : List Deferred) (w : World), HR P W φ (hp H) w → φ.length = nx → lo ≤ nx → DsR P φ l ds → MdR φ m mv →
    TRm φ (fun _ => False) tm tmps → (unwQ P pl c tm l m H nx).run O = some r → FinOK P W c.kd c.fn lo cs0 c.rc φ H r { mkF (fbOf c ds) tmps todo with mode := modeOf mv } w
  | [], m, mv, φ, H, nx, ds, w, hH, hnx, hlo, hds, hm, htr, h => by
    cases hds
    have h : (endQ P pl c tm m H nx).run O = some r := h
    unfold endQ at h
    cases hm with
    | ret => exact outQ_ok hH hnx rfl rfl htr h
    | @pan v v' hv =>
      obtain ⟨fd, hfd, h⟩ := run_optK h
      have h := run_ret h
      subst h
      exact ⟨φ, w, _, .refl _ _, φ.le_refl, hH, hnx, fun k _ q => ⟨q, rfl⟩, rfl, rfl, v', hv, rfl, rfl, fd, hfd⟩
  | (g, args) :: l, m, mv, φ, H, nx, ds, w, hH, hnx, hlo, hds, hm, htr, h => by
    cases hds with
    | @cons _ d' _ ds' hd hl =>
      obtain ⟨a', cap', rfl, hLR, hok⟩ := hd
      obtain ⟨r1, h1, h2⟩ := run_ask (show (Q.ask (.call g args true (rpOf m) H nx) fun r => bkQ m r (unwQ P pl c tm l)).run O = some r from h)
      have hinv : (invoke (.fn (.func g) ⟨cap'⟩) a').run P w = .ok (.enter g (a' ++ ⟨cap'⟩)) w := run_callFunc hok _ _
      have e : (a' ++ ⟨cap'⟩ : Array Value) = (a'.toList ++ cap').toArray := Array.ext' (by simp)
      have hst := step_defer (P := P) (fr := { mkF (fbOf c ({ target := .fn (.func g) ⟨cap'⟩, args := a' } :: ds')) tmps todo with mode := modeOf mv }) (cs := csAt c.rc cs0) (modeOf_ne mv) rfl rfl hinv
      rw [e] at hst
      have hrcv : RcvR φ true (rpOf m) false ({ mkF (fbOf c ds') tmps todo with mode := modeOf mv } :: csAt c.rc cs0) := fun _ => by
        cases hm with
        | ret => exact fun F hF => (rcv_deferred (C := { mkF (fbOf c ds') tmps todo with mode := modeOf none }) (cs := csAt c.rc cs0) hF).trans rfl
        | pan hv => exact ⟨rfl, _, _, _, [], rfl, rfl, hv⟩
      obtain ⟨φ1, w1, frl, s1, hle, hH1, hl1, hk1, hkk, hff, ho1⟩ := hO _ _ h1 φ w _ _ hH hnx hLR hrcv
      unfold bkQ at h2
      cases hr1 : r1.o with
      | pan v => rw [hr1] at h2; cases h2
      | ret v =>
        rw [hr1] at h2 ho1
        obtain ⟨v', hv', hgo⟩ := ho1
        have h2 : (unwQ P pl c tm l (bK r1.rc .ret m) r1.H r1.nx).run O = some r := h2
        have hlen := le_len hle (keep_all (fun k hk q => hk1 k (by rw [← hnx]; exact hk) q))
        -- the frame that deferred, behind the call
        have back : ∃ mv1, MdR φ1 (bK r1.rc .ret m) mv1 ∧ Steps P (lone frl (csAt r1.rc ({ mkF (fbOf c ds') tmps todo with mode := modeOf mv } :: csAt c.rc cs0)) w1) (lone { mkF (fbOf c ds') tmps todo with mode := modeOf mv1 } (csAt c.rc cs0) w1) := by
          cases hrc : r1.rc with
          | false =>
            cases hm with
            | ret => exact ⟨none, .ret, .one (step_going_returned (c := { mkF (fbOf c ds') tmps todo with mode := modeOf none }) hkk hgo)⟩
            | pan hv => exact ⟨some _, .pan (hv.mono hle), .one (step_going_returned (c := { mkF (fbOf c ds') tmps todo with mode := modeOf (some _) }) hkk hgo)⟩
          | true =>
            refine ⟨none, .ret, ?_⟩
            cases hm with
            | ret => exact .one (step_going_returned (c := { mkF (fbOf c ds') tmps todo with mode := modeOf none }) hkk hgo)
            | @pan u u' hv => exact .one (step_going_returned (c := { mkF (fbOf c ds') tmps todo with mode := .panicking [{ v := u', recovered := true }] }) hkk hgo)
        obtain ⟨mv1, hm1, hs1⟩ := back
        have ih := unwQ_ok hO l (bK r1.rc .ret m) mv1 φ1 r1.H r1.nx ds' w1 hH1 hl1 (by omega) (hl.mono hle) hm1 (htr.mono hle) h2
        exact ih.steps (.head hst (s1.trans hs1)) hle fun k hk q => hk1 k (by omega) q

theorem leaveQ_ok (hO : OrcOK P W O) (ht : todo = [] ∨ ∃ k, todo = .code .ret :: k) : KOK P W O (leaveQ P pl) todo := fun c tm H nx r h φ w lo tmps ds cs0 x htr => by
  have hs : Steps P (lone (mkF (fbOf c ds) tmps todo) (csAt c.rc cs0) w) (lone { mkF (fbOf c ds) tmps todo with mode := modeOf none } (csAt c.rc cs0) w) := by
    rcases ht with rfl | ⟨k, rfl⟩
    · exact .one (step_end (b := mkF (fbOf c ds) #[] []) (a := ⟨tmps, ds⟩))
    · exact .one (step_ret (b := mkF (fbOf c ds) #[] []) (a := ⟨tmps, ds⟩))
  exact (unwQ_ok hO c.df .ret none φ H nx ds w x.hH x.hnx x.hlo x.hds .ret htr h).step1 hs

/-! a call -/
theorem call_ok (hO : OrcOK P W O) {g : FuncId} {args args' : List Value} (h1 : O (.call g args false none H nx) = some r1) (hH : HR P W φ (hp H) w) (hnx : φ.length = nx) (hLR : LR φ args args') {C : Frame} (hC : C.mode = .run) (cs : List Frame) :
    ∃ φ1 w1, φ.le φ1 ∧ HR P W φ1 (hp r1.H) w1 ∧ φ1.length = r1.nx ∧ Keep φ φ1 (hp H) (hp r1.H) ∧ nx ≤ r1.nx ∧ (match r1.o with
      | .ret v => ∃ v', VR φ1 v v' ∧ Steps P (lone (Frame.enter P g args'.toArray .normal) (C :: cs) w) (lone (C.finish v') cs w1)
      | .pan v => ∃ v', VR φ1 v v' ∧ Steps P (lone (Frame.enter P g args'.toArray .normal) (C :: cs) w) (lone { C with mode := modeOf (some v') } cs w1)) := by
  have hC' : ∀ l, C.mode ≠ .panicking l := fun l q => by rw [hC] at q; cases q
  obtain ⟨φ1, w1, frl, s1, hle, hH1, hl1, hk1, hkk, hff, ho1⟩ := hO _ _ h1 φ w _ (C :: cs) hH hnx hLR (fun q => by cases q)
  have hkeep : Keep φ φ1 (hp H) (hp r1.H) := keep_all (fun k hk q => hk1 k (by rw [← hnx]; exact hk) q)
  rw [csAt_run _ hC', csAt_run _ hC'] at s1
  refine ⟨φ1, w1, hle, hH1, hl1, hkeep, by have := le_len hle hkeep; omega, ?_⟩
  cases hr1 : r1.o with
  | ret v =>
    rw [hr1] at ho1
    obtain ⟨v', hv', hgo⟩ := ho1
    refine ⟨v', hv', s1.trans (.one (step_leave_returned ?_))⟩
    obtain ⟨a, b, c⟩ := hgo
    exact ⟨a, b, hkk, c⟩
  | pan v =>
    rw [hr1] at ho1
    obtain ⟨v', hv', hgo⟩ := ho1
    refine ⟨v', hv', s1.trans (.one ?_)⟩
    have := step_going_panicked (c := C) (cs := cs) hgo
    rw [show raised C.mode [{ v := v', recovered := false }] = modeOf (some v') from by rw [hC]; rfl] at this
    exact this

/-- An operation that is no reader, in the model. -/
theorem eff_run {fb : FB} {o : Oper} {i : Nat} {rest : List Nat} {v : Value} (ho : ops[i]? = some o) (hw : Region.wanted o (yielded ops tmps) = true)
    (he : EfOk P W φ H w ((execOp (evalA tmps) o).run P w) v H' nx') :
    ∃ φ' v' w', step P (lone (mkF fb tmps (.inRegion ops (i :: rest) :: k)) cs w) = .next (lone (mkF fb (putA tmps o.dst v') (.inRegion ops rest :: k)) cs w') ∧
      VR φ' v v' ∧ φ.le φ' ∧ HR P W φ' (hp H') w' ∧ φ'.length = nx' ∧ Keep φ φ' (hp H) (hp H') := by
  obtain ⟨φ', v', w', x, hr, hx, h1, h2, h3, h4, h5⟩ := he
  refine ⟨φ', v', w', ?_, h1, h2, h3, h4, h5⟩
  rcases hx with rfl | ⟨rfl, rfl⟩
  · exact step_value ho hw hr
  · exact step_skipv ho hw hr

theorem noMask {l : List Operand} : ∀ t, Operand.tmp t ∈ l → ¬ (fun (_ : Nat) => False) t := fun _ _ h => h

theorem Fx.next (x : Fx P W lo cs0 c φ H nx tmps ds w) (hle : φ.le φ') (hH : HR P W φ' (hp H') w') (hl : φ'.length = nx') (hn : nx ≤ nx') {tmps' : Array Value} (hsz : tmps'.size = tmps.size) : Fx P W lo cs0 c φ' H' nx' tmps' ds w' :=
  ⟨hH, hl, Nat.le_trans x.hlo hn, hsz.trans x.hsz, x.hds.mono hle, x.hrc.mono hle⟩

/-! variables that are held by value -/
theorem TRm.refine {M : Nat → Prop} (h : TRm φ M tm tmps) {d : Tmp} {v v' : Value} (hd : tmps[d]? = some v') (hv : VR φ v v') : TRm φ M (tmPut tm (some d) v) tmps := fun t u q => by
  rw [get_tmPut] at q
  split at q
  · rename_i e
    cases e
    cases q
    exact .inr ⟨v', hd, hv⟩
  · exact h t u q

/-- A variable's block, whose cells ours tell. -/
theorem box_ok (hH : HR P W φ (hp H) w) (hnx : φ.length = nx) {o : Oper} {e : TypeId} {x : Operand} (ho : o.op = .box e x) (hE : ∀ v, eva P tm x = some v → VR φ v (evalA tmps x)) {u : Value} (hu : eva P tm x = some u) :
    ∃ φ' v' w', (execOp (evalA tmps) o).run P w = .ok (.value v') w' ∧ VR φ' (eptrV u) v' ∧ φ.le φ' ∧ HR P W φ' (hp H) w' ∧ φ'.length = nx + 1 ∧ Keep φ φ' (hp H) (hp H) := by
  have hc := (hE u hu).cells
  have hb : Below w.heap.size w (w.alloc (.cells (evalA tmps x).cells e)) := (Below.refl w.heap.size w).alloc (Nat.le_refl _) _
  refine ⟨φ ++ [some ⟨w.heap.size, 0, 0, some (evalA tmps x).cells⟩], .pointer (some ⟨w.heap.size, 0, none⟩), w.alloc (.cells (evalA tmps x).cells e), ?_, ?_, le_push φ _, ?_, by simp [hnx], ?_⟩
  · simp [execOp, ho, Instr.box, newVar, newRow]
  · refine VR.ep (e := ⟨w.heap.size, 0, 0, some (evalA tmps x).cells⟩) (get_push φ _) rfl (by rw [hc.len]; simp) (fun j a b ha hb => ?_)
    rw [Nat.zero_add] at hb
    exact (hc.at_ j a b ha (by simpa using hb)).mono (le_push φ _)
  · refine (hH.grown hb).ghost (el := e) (fz := (0, 0)) rfl (Go.heap_alloc_new w _) (fun k y ob hk _ _ q => ?_)
    have := hH.rng k y hk
    have q : y.r = w.heap.size := q
    omega
  · intro k hk
    refine ⟨?_, rfl⟩
    rw [List.getElem?_append_left (List.getElem?_eq_some_iff.1 hk).1]; exact hk

theorem frStore_ok (hH : HR P W φ (hp H) w) (hnx : φ.length = nx) {o : Oper} {t : TypeId} {d : Tmp} {x : Operand} (ho : o.op = .store t (.tmp d) x) (hE : EvR P φ tm (evalA tmps) [.tmp d, x]) {b n s : Nat} {tr : T Value} {el : TypeId} {u : Value}
    (ha : eva P tm (.tmp d) = some (.pointer (some ⟨b, 0, none⟩))) (hu : eva P tm x = some u) (hg : H.get (bits b) = some (.cells n tr el)) (hs : szOf P t = some s) (hn : n = s) (hl : u.cells.toList.length = s) (hone : u.cells.toList.all oneCell = true) :
    ∃ φ' v' w' y, (execOp (evalA tmps) o).run P w = .ok y w' ∧ (y = .value v' ∨ (y = .skip ∧ v' = undef)) ∧ v' = undef ∧ VR φ' (eptrV u) (evalA tmps (.tmp d)) ∧ φ.le φ' ∧ HR P W φ' (hp (set H (bits b) (some .dead))) w' ∧ φ'.length = nx + 1 ∧ Keep φ φ' (hp H) (hp (set H (bits b) (some .dead))) := by
  subst hn
  have hef : efStore P H nx t (eva P tm (.tmp d)) (eva P tm x) = .val undef (set H (bits b) (some (.cells n (fromL u.cells.toList 0 tr) el))) nx := by
    rw [ha, hu]
    show cellsK (H.get (bits b)) (fun n tr e => optK (szOf P t) (fun s => bif Nat.beq u.cells.toList.length s && Nat.ble (0 + s) n && u.cells.toList.all oneCell then
      fromLK u.cells.toList 0 tr fun tr => setK (bits b) H (some (.cells n tr e)) fun H => Eff.val undef H nx else .bad) .bad) .bad = _
    rw [hg]
    show optK (szOf P t) (fun s => bif Nat.beq u.cells.toList.length s && Nat.ble (0 + s) n && u.cells.toList.all oneCell then
      fromLK u.cells.toList 0 tr fun tr => setK (bits b) H (some (.cells n tr el)) fun H => Eff.val undef H nx else .bad) .bad = _
    rw [hs, optK_some, hl, hone, fromLK_fromL, setK_set]
    have e1 : Nat.beq n n = true := Nat.beq_refl n
    have e2 : Nat.ble (0 + n) n = true := by rw [Nat.zero_add]; exact Nat.ble_eq_true_of_le (Nat.le_refl n)
    rw [e1, e2]
    rfl
  obtain ⟨φ1, v', w1, y, hr, hy, h1, h2, h3, h4, h5⟩ := ef_store hH hnx ho hE hef
  obtain ⟨en, hb, _, hp1⟩ := (hE (.tmp d) (by simp) _ ha).ptr_inv
  have hb1 := h2 b en hb
  have hg1 : hp (set H (bits b) (some (.cells n (fromL u.cells.toList 0 tr) el))) b = some (.cells n (fromL u.cells.toList 0 tr) el) := by rw [hp_set, upd_same]
  obtain ⟨c, el', hrow, hrsz, hrn, hrc⟩ := h3.cells hg1 hb1
  have hk := h3.kill hg1 hb1
  rw [hp_set, upd_upd, ← hp_set] at hk
  have hgh := hk.ghost (e := ⟨en.r, en.sz, en.es, some c⟩) rfl hrow (fun k x ob hk' hgk hlk hr => by
    rw [hp_set] at hgk
    by_cases hkb : k = b
    · subst hkb; rw [upd_same] at hgk; cases hgk; cases hlk
    · rw [upd_other _ hkb] at hgk
      exact hkb (h3.inj k b _ _ x en hk' hb1 (by rw [hp_set, upd_other _ hkb]; exact hgk) hg1 hlk rfl hr))
  refine ⟨_, v', w1, y, hr, hy, h1.eq_of_flat rfl, ?_, Phi.le_trans h2 (le_push φ1 _), hgh, by simp [h4], ?_⟩
  · rw [hp1]
    refine VR.ep (e := ⟨en.r, en.sz, en.es, some c⟩) (c := c) (get_push φ1 _) rfl (by rw [hl]; omega) (fun j a b' hja hjb => ?_)
    have hjl : j < u.cells.toList.length := (List.getElem?_eq_some_iff.1 hja).1
    obtain ⟨a', g1, g2⟩ := hrc j (by omega) a (by rw [get_fromL, if_pos (by omega), Nat.sub_zero]; exact hja)
    rw [Nat.zero_add, g1] at hjb
    cases hjb
    exact g2.mono (le_push φ1 _)
  · intro k hk'
    obtain ⟨q1, q2⟩ := h5 k hk'
    refine ⟨?_, ?_⟩
    · rw [List.getElem?_append_left (List.getElem?_eq_some_iff.1 q1).1]; exact q1
    · rw [hp_set, upd_other]
      intro q; subst q; rw [hb] at hk'; cases hk'

theorem isFr_inv {o : Oper} (h : isFr pl fn o = true) : (∃ e x, o.op = .box e x) ∨ ∃ t d x, o.op = .store t (.tmp d) x := by
  unfold isFr at h
  split at h
  · rename_i e x ho; exact .inl ⟨e, x, ho⟩
  · rename_i t d x ho; exact .inr ⟨t, d, x, ho⟩
  · cases h

/-! a region without a draw -/
theorem stepR_ok (hO : OrcOK P W O) {K : Kt} (hK : KOK P W O K k) : ∀ l : List Nat, KOK P W O (stepR P pl ops K l) (.inRegion ops l :: k)
  | [], c, tm, H, nx, r, h => (hK c tm H nx r h).step1 fun ds tmps cs w => .one (step_region_end (b := mkF (fbOf c ds) #[] []) (a := ⟨tmps, ds⟩))
  | i :: rest, c, tm, H, nx, r, h => fun φ w lo tmps ds cs0 x htr => by
    obtain ⟨o, ho, h⟩ := run_optK (show (Ev.optK ops[i]? (opR P pl ops c tm H nx (stepR P pl ops K rest)) .bad).run O = some r from h)
    unfold opR at h
    obtain ⟨b, hb, hy, hn⟩ := run_guard h
    have hw : Region.wanted o (yielded ops tmps) = b := wanted_of htr (fun _ _ _ _ h => h) hb
    have hE : EvR P φ tm (evalA tmps) o.op.operands.toList := EvR_of x.hH.gl htr noMask
    have next : ∀ {φ' : Phi} {H' : T OB} {nx' : Nat} {w' : World} {v v' : Value},
        Steps P (lone (mkF (fbOf c ds) tmps (.inRegion ops (i :: rest) :: k)) (csAt c.rc cs0) w) (lone (mkF (fbOf c ds) (putA tmps o.dst v') (.inRegion ops rest :: k)) (csAt c.rc cs0) w') →
        φ.le φ' → HR P W φ' (hp H') w' → φ'.length = nx' → nx ≤ nx' → Keep φ φ' (hp H) (hp H') → VR φ' v v' → ((∀ d, o.dst = some d → d < c.nt) ∧ (stepR P pl ops K rest c (tmPut tm o.dst v) H' nx').run O = some r) →
        FinOK P W c.kd c.fn lo cs0 c.rc φ H r (mkF (fbOf c ds) tmps (.inRegion ops (i :: rest) :: k)) w := fun hs hle hH' hl hn hkp hv hq => by
      obtain ⟨hd, hq⟩ := hq
      have hd' : ∀ d, o.dst = some d → d < tmps.size := fun d h => by rw [x.hsz]; exact hd d h
      exact FinOK.steps hs hle (fun k _ q => hkp k q) (stepR_ok hO hK rest _ _ _ _ _ hq _ _ _ _ ds cs0 (x.next hle hH' hl hn (putA_size ..)) ((htr.mono hle).put hd' hv fun t h _ => h))
    cases b with
    | false => exact next (.one (step_not ho hw)) φ.le_refl x.hH x.hnx (Nat.le_refl _) (Keep.refl _ _) (.flat undef rfl) (run_putK (hn rfl))
    | true =>
      have h := hy rfl
      unfold doR at h
      rcases run_bK h with ⟨hrd, h⟩ | ⟨hrd, h⟩
      · obtain ⟨v, hv, h⟩ := run_optK h
        obtain ⟨v', h1, h2⟩ := rd_sound x.hH hE hv
        exact next (.one (step_value ho hw h2)) φ.le_refl x.hH x.hnx (Nat.le_refl _) (Keep.refl _ _) h1 (run_putB h)
      · rcases run_bK h with ⟨hct, h⟩ | ⟨hct, h⟩
        · cases he : ef P H nx tm o with
          | bad => rw [he] at h; cases h
          | val v H' nx' => rw [he] at h; cases h
          | call g args =>
            rw [he] at h
            obtain ⟨args', h1, hok, h2⟩ := ef_call hE he
            obtain ⟨r1, h3, h4⟩ := run_ask (show (Q.ask (.call g args false none H nx) _).run O = some r from h)
            obtain ⟨φ1, w1, hle, hH1, hl1, hkp, hn1, ho1⟩ := call_ok hO h3 x.hH x.hnx h1 (C := mkF (fbOf c ds) tmps (.inRegion ops (i :: rest) :: k)) rfl (csAt c.rc cs0)
            cases hr1 : r1.o with
            | ret v =>
              rw [hr1] at ho1
              simp only [hr1] at h4
              obtain ⟨v', hv', hs⟩ := ho1
              rw [fin_mk ho] at hs
              exact next (.head (step_enter ho hw (h2 w)) hs) hle hH1 hl1 hn1 hkp hv' (run_putB h4)
            | pan v =>
              rw [hr1] at ho1
              simp only [hr1] at h4
              obtain ⟨v', hv', hs⟩ := ho1
              exact (unwQ_ok hO c.df (.pan v) (some v') φ1 r1.H r1.nx ds w1 hH1 hl1 (by have := x.hlo; omega) (x.hds.mono hle) (.pan hv') (htr.mono hle) h4).steps (.head (step_enter ho hw (h2 w)) hs) hle fun k _ q => hkp k q
          | dfr g args =>
            rw [he] at h
            obtain ⟨d', h1, h2⟩ := ef_dfr hE he
            obtain ⟨hd, hq⟩ := run_putK (show (putK c.nt tm o.dst undef (fun tm => stepR P pl ops K rest ⟨c.fn, c.nt, c.kd, (g, args) :: c.df, c.rp, c.rc⟩ tm H nx) .bad).run O = some r from h)
            have hd' : ∀ d, o.dst = some d → d < tmps.size := fun d h => by rw [x.hsz]; exact hd d h
            have hx : Fx P W lo cs0 ⟨c.fn, c.nt, c.kd, (g, args) :: c.df, c.rp, c.rc⟩ φ H nx (putA tmps o.dst undef) (d' :: ds) w := ⟨x.hH, x.hnx, x.hlo, (putA_size ..).trans x.hsz, .cons h1 x.hds, x.hrc⟩
            exact FinOK.step1 (.one (step_dfr ho hw (h2 w))) (stepR_ok hO hK rest _ _ _ _ _ hq _ _ _ _ _ _ hx (htr.put hd' (.flat _ rfl) fun t h _ => h))
          | pan v =>
            rw [he] at h
            obtain ⟨v', h1, h2⟩ := ef_pan hE he
            exact (unwQ_ok hO c.df (.pan v) (some v') φ H nx ds w x.hH x.hnx x.hlo x.hds (.pan h1) htr h).step1 (.one (step_pan ho hw (h2 w)))
          | rcv =>
            rw [he] at h
            have h : (rcvQ c fun c v => putK c.nt tm o.dst v (fun tm => stepR P pl ops K rest c tm H nx) .bad).run O = some r := h
            have h2 := ef_rcv (ρ := evalA tmps) he w
            have none' : tryRecover (mkF (fbOf c ds) tmps (.inRegion ops (i :: rest) :: k)) (csAt c.rc cs0) = none → (putK c.nt tm o.dst .nilIface (fun tm => stepR P pl ops K rest c tm H nx) .bad).run O = some r →
                FinOK P W c.kd c.fn lo cs0 c.rc φ H r (mkF (fbOf c ds) tmps (.inRegion ops (i :: rest) :: k)) w := fun ht hq =>
              next (.one (step_rcv_none ho hw h2 ht)) φ.le_refl x.hH x.hnx (Nat.le_refl _) (Keep.refl _ _) (.flat .nilIface rfl) (run_putK hq)
            obtain ⟨cfn, cnt, ckd, cdf, crp, crc⟩ := c
            have hrc : RcvR φ ckd crp crc cs0 := x.hrc
            cases ckd with
            | false => exact none' (rcv_normal rfl) h
            | true =>
              have hk2 : (mkF (fbOf ⟨cfn, cnt, true, cdf, crp, crc⟩ ds) tmps (.inRegion ops (i :: rest) :: k)).kind = .deferred := rfl
              have hrc := hrc rfl
              cases crp with
              | none => exact none' (hrc _ hk2) h
              | some v =>
                obtain ⟨q, C, rs, v', older, hcs, hC, hv⟩ := hrc
                subst q hcs
                obtain ⟨hd, hq⟩ := run_putK (show (putK cnt tm o.dst v (fun tm => stepR P pl ops K rest ⟨cfn, cnt, true, cdf, none, true⟩ tm H nx) .bad).run O = some r from h)
                have hsz : tmps.size = cnt := x.hsz
                have hd' : ∀ d, o.dst = some d → d < tmps.size := fun d h => by rw [hsz]; exact hd d h
                have ht : tryRecover (mkF (fbOf ⟨cfn, cnt, true, cdf, some v, false⟩ ds) tmps (.inRegion ops (i :: rest) :: k)) (C :: rs) = some (v', markC (C :: rs)) := by
                  rw [rcv_deferred hk2]
                  unfold markC
                  simp only [hC]
                have hx : Fx P W lo (C :: rs) ⟨cfn, cnt, true, cdf, none, true⟩ φ H nx (putA tmps o.dst v') ds w := ⟨x.hH, x.hnx, x.hlo, (putA_size ..).trans hsz, x.hds, fun _ F hF => rcv_mark (cs := C :: rs) hF⟩
                exact FinOK.steps (rc1 := true) (.one (step_rcv_some ho hw h2 ht)) φ.le_refl (fun _ _ q => ⟨q, rfl⟩) (stepR_ok hO hK rest _ _ _ _ _ hq _ _ _ _ _ _ hx (htr.put hd' hv fun t h _ => h))
        · rcases run_bK h with ⟨hfr, h⟩ | ⟨hfr, h⟩
          · rcases isFr_inv hfr with ⟨e, y, hop⟩ | ⟨t, d, y, hop⟩
            · unfold frQ at h
              simp only [hop] at h
              obtain ⟨u, hu, h⟩ := run_optK (show (optK (eva P tm y) (fun v => natF (Nat.succ nx) fun n => putK c.nt tm o.dst (eptrV v) (fun tm => stepR P pl ops K rest c tm H n) .bad) .bad).run O = some r from h)
              rw [natF_eq] at h
              obtain ⟨φ', v', w', hs, h1, h2, h3, h4, h5⟩ := box_ok x.hH x.hnx hop (fun v hv => hE y (by rw [hop]; simp [Op.operands]) v hv) hu
              exact next (.one (step_value ho hw hs)) h2 h3 h4 (Nat.le_succ _) h5 h1 (run_putK h)
            · unfold frQ at h
              simp only [hop] at h
              obtain ⟨b, off, ha, h⟩ := run_ptrQ (show (frStore P c.nt tm H nx t d o.dst (eva P tm (.tmp d)) (eva P tm y) fun tm H nx => stepR P pl ops K rest c tm H nx).run O = some r from h)
              obtain ⟨u, hu, h⟩ := run_optK h
              obtain ⟨n, tr, el, hg, h⟩ := run_cellsQ h
              obtain ⟨s, hs, h⟩ := run_optK h
              obtain ⟨hc, hq⟩ := run_bif h
              rw [setK_set, natF_eq] at hq
              simp only [Bool.and_eq_true] at hc
              have hn := beq_eq hc.2.1
              have hl := beq_eq hc.2.2.1
              obtain ⟨hd, hq1⟩ := run_putK hq
              obtain ⟨hd2, hq2⟩ := run_putK hq1
              have hoff := beq_eq hc.1
              clear h hq hq1
              subst hoff
              obtain ⟨φ', v', w', y', hr, hy', hv', h1, h2, h3, h4, h5⟩ := frStore_ok x.hH x.hnx hop (by rw [hop] at hE; exact hE) ha hu hg hs hn hl hc.2.2.2
              have hst : step P (lone (mkF (fbOf c ds) tmps (.inRegion ops (i :: rest) :: k)) (csAt c.rc cs0) w) = .next (lone (mkF (fbOf c ds) (putA tmps o.dst v') (.inRegion ops rest :: k)) (csAt c.rc cs0) w') := by
                rcases hy' with rfl | ⟨rfl, rfl⟩
                · exact step_value ho hw hr
                · exact step_skipv ho hw hr
              have hdd : d < tmps.size := by rw [x.hsz]; exact hd d rfl
              have hd2' : ∀ e, o.dst = some e → e < tmps.size := fun e q => by rw [x.hsz]; exact hd2 e q
              have htd : tmps[d]? = some (evalA tmps (.tmp d)) := by
                rw [Array.getElem?_eq_getElem hdd]
                show _ = some (tmps.getD d undef)
                simp [Array.getD, hdd]
              have ht1 := (htr.mono h2).refine htd h1
              refine FinOK.steps (.one hst) h2 (fun k _ q => h5 k q) (stepR_ok hO hK rest _ _ _ _ _ hq2 _ _ _ _ ds cs0 (x.next h2 h3 h4 (Nat.le_succ _) (putA_size ..)) ?_)
              exact ht1.put hd2' (by rw [hv']; exact .flat undef rfl) fun t h _ => h
          · obtain ⟨v, H', nx', he, h⟩ := run_eff h
            obtain ⟨φ', v', w', hs, h1, h2, h3, h4, h5⟩ := eff_run (fb := fbOf c ds) (k := k) (cs := csAt c.rc cs0) (rest := rest) ho hw (ef_sound x.hH x.hnx hE he)
            have hn : nx ≤ nx' := by have := le_len h2 h5; rw [x.hnx, h4] at this; exact this
            exact next (.one hs) h2 h3 h4 hn h5 h1 (run_putK h)

/-! a region with a draw -/
theorem stepD_ok (hO : OrcOK P W O) {K : Kt} (hK : KOK P W O K k) : ∀ (l : List (Nat × List Nat)) (tm : T Value) (H : T OB) (nx : Nat) (φ : Phi) (tmps : Array Value) (w : World) (π done lds : List Nat) (κ : Nat → Nat),
    (stepD P pl ops K l c tm H nx).run O = some r → Fx P W lo cs0 c φ H nx tmps ds w → DrawC P φ H tm tmps ops done lds l π κ lo nx → LoadP P H tm ops done π → FinOK P W c.kd c.fn lo cs0 c.rc φ H r (mkF (fbOf c ds) tmps (.inRegion ops π :: k)) w
  | [], tm, H, nx, φ, tmps, w, π, done, lds, κ, h, x, hD, hL => by
    obtain ⟨φ', tmps', w', π', hs, hle, hH', hlen, hk, hD', _, hz, hn⟩ := run_pend (fn := fbOf c ds) (k := k) (cs := csAt c.rc cs0) π φ tmps w x.hH hD hL
    have := hD'.last hn
    subst this
    refine FinOK.steps (hs.trans (.one (step_region_end (b := mkF (fbOf c ds) #[] []) (a := ⟨tmps', ds⟩)))) hle (fun k hk' q => ⟨hk k hk' q, rfl⟩) (hK c tm H nx r h _ _ _ _ ds cs0 (x.next hle hH' (hlen.trans x.hnx) (Nat.le_refl _) hz) ?_)
    exact fun t v hv => (hD'.tr t v hv).imp (fun ⟨p, hp, _⟩ => absurd hp List.not_mem_nil) id
  | (i, chk) :: rest, tm, H, nx, φ, tmps, w, π, done, lds, κ, h, x, hD, hL => by
    obtain ⟨o, ho, hni, hrdy, hpr, hpe⟩ := okPlan_cons hD.plan
    obtain ⟨o', ho', h⟩ := run_optK (show (Ev.optK ops[i]? (opD P pl ops chk c tm H nx (stepD P pl ops K rest)) .bad).run O = some r from h)
    rw [ho] at ho'
    cases ho'
    unfold opD at h
    obtain ⟨b, hb, hy, hn0⟩ := run_guard h
    have hsz := x.hsz
    -- given ahead
    have ahead : ∀ {φ' : Phi} {H' : T OB} {nx' : Nat} {κ' : Nat → Nat} {u : Value}, fore (anOf ops) i o = true → (∀ d, o.dst = some d → d < c.nt) → φ.le φ' →
        (∀ k, k < nx → φ[k]? = some none → φ'[k]? = some none ∧ hp H' k = hp H k) → (∀ p, p ≠ i → κ' p = κ p) → nx ≤ nx' → HR P W φ' (hp H') w → φ'.length = nx' →
        Prom P φ' H' (tmPut tm o.dst u) ops κ' lo nx' i o → (isAl o.op = true → nx ≤ κ' i) → (∀ k ob, hp H k = some ob → hp H' k = some ob) →
        (isLd o.op = true → wantedO (tmPut tm o.dst u) ops o = some true → rd P H' (tmPut tm o.dst u) o = some u) →
        (stepD P pl ops K rest c (tmPut tm o.dst u) H' nx').run O = some r → FinOK P W c.kd c.fn lo cs0 c.rc φ H r (mkF (fbOf c ds) tmps (.inRegion ops π :: k)) w := by
      intro φ' H' nx' κ' u hc hd hle hk hκ hn hH' hl hprom hfresh hext hself hq
      have hna : i ∉ antis ops := anOf_sub fun hm => by
        have hm' : (anOf ops).contains i = true := by simpa using hm
        unfold fore at hc
        rw [hm', Bool.not_true, Bool.and_false] at hc
        cases hc
      refine FinOK.steps (.refl _ _) hle (fun k hk' q => hk k (by have := x.hlo; omega) q) (stepD_ok hO hK rest _ H' nx' φ' tmps w π (i :: done) _ κ' hq (x.next hle hH' hl hn rfl)
        (hD.take ho hna hni hrdy (hpr hc) (fun p hp => ?_) (fun hl => ?_) hle hk hκ hn (fun d h => by rw [hsz]; exact hd d h) hprom hfresh) (hL.take hD.sa hD.ready ho hna hni hext hself))
      · split
        · exact List.mem_cons_of_mem _ hp
        · exact hp
      · rw [if_pos hl]; simp
    have hself : ∀ {d : Tmp}, o.dst = some d → d ∉ o.looksAt ops := fun hd => not_self hD.sa hD.ac ho hd
    have e1 : ∀ u, wantedO (tmPut tm o.dst u) ops o = wantedO tm ops o := fun u => stable_w (i := i) (p := i) fun d hd => hself hd
    have e2 : ∀ u H, rd P H (tmPut tm o.dst u) o = rd P H tm o := fun u H => stable_rd fun d hd => hself hd
    have e3 : ∀ u d, o.dst = some d → (tmPut tm o.dst u).get (bits d) = some u := fun u d hd => by rw [get_tmPut, if_pos hd]
    -- its turn has come
    have turn : fore (anOf ops) i o = false → ∃ φ1 tmps1 w1 l, Steps P (lone (mkF (fbOf c ds) tmps (.inRegion ops π :: k)) (csAt c.rc cs0) w) (lone (mkF (fbOf c ds) tmps1 (.inRegion ops (i :: l) :: k)) (csAt c.rc cs0) w1) ∧
        φ.le φ1 ∧ (∀ k, k < lo → φ[k]? = some none → φ1[k]? = some none ∧ hp H k = hp H k) ∧ Fx P W lo cs0 c φ1 H nx tmps1 ds w1 ∧ DrawC P φ1 H tm tmps1 ops done lds ((i, chk) :: rest) (i :: l) κ lo nx ∧
        Region.wanted o (yielded ops tmps1) = b ∧ EvR P φ1 tm (evalA tmps1) o.op.operands.toList := by
      intro hc
      obtain ⟨φ1, tmps1, w1, π', hs, hle, hH1, hlen, hk, hD1, _, hz, hn⟩ := run_pend (fn := fbOf c ds) (k := k) (cs := csAt c.rc cs0) π φ tmps w x.hH hD hL
      obtain ⟨l, rfl⟩ := hD1.head ho hc hn
      exact ⟨φ1, tmps1, w1, l, hs, hle, fun j hj q => ⟨hk j hj q, rfl⟩, x.next hle hH1 (hlen.trans x.hnx) (Nat.le_refl _) hz, hD1,
        wanted_of hD1.tr (fun p hp d hd => head_free hD1.lin hD1.own ho (looks_guard hp hd)) hb, EvR_of hH1.gl hD1.tr fun t ht => head_free hD1.lin hD1.own ho (looks_op ht)⟩
    -- behind what is no reader
    have fin : ∀ {φ1 φ2 : Phi} {H' : T OB} {nx' : Nat} {tmps1 : Array Value} {w1 w2 : World} {l : List Nat} {v v' : Value}, fore (anOf ops) i o = false → Fx P W lo cs0 c φ1 H nx tmps1 ds w1 → DrawC P φ1 H tm tmps1 ops done lds ((i, chk) :: rest) (i :: l) κ lo nx →
        Steps P (lone (mkF (fbOf c ds) tmps1 (.inRegion ops (i :: l) :: k)) (csAt c.rc cs0) w1) (lone (mkF (fbOf c ds) (putA tmps1 o.dst v') (.inRegion ops l :: k)) (csAt c.rc cs0) w2) →
        φ1.le φ2 → HR P W φ2 (hp H') w2 → φ2.length = nx' → nx ≤ nx' → Keep φ1 φ2 (hp H) (hp H') → VR φ2 v v' → ((∀ d, o.dst = some d → d < c.nt) ∧ (chkQ P H' (tmPut tm o.dst v) ops chk (stepD P pl ops K rest c (tmPut tm o.dst v) H' nx')).run O = some r) →
        FinOK P W c.kd c.fn lo cs0 c.rc φ1 H r (mkF (fbOf c ds) tmps1 (.inRegion ops (i :: l) :: k)) w1 := by
      intro φ1 φ2 H' nx' tmps1 w1 w2 l v v' hc x1 hD1 hs hle hH2 hl hn hkp hv hq
      obtain ⟨hd, hq⟩ := hq
      unfold chkQ at hq
      rcases run_bK hq with ⟨hchk, hq⟩ | ⟨_, hq⟩
      · obtain ⟨h6, h7⟩ := hD1.finish (H' := H') ho hc hle (fun j _ q => hkp j q) hn hv (fun d h => by rw [x1.hsz]; exact hd d h) hchk
        exact FinOK.steps hs hle (fun k _ q => hkp k q) (stepD_ok hO hK rest _ _ _ _ _ _ _ _ _ _ hq (x1.next hle hH2 hl hn (putA_size ..)) h6 h7)
      · exact (run_bad hq).elim
    cases b with
    | true =>
      have h := hy rfl
      unfold doD at h
      rcases run_bK h with ⟨hrd, h⟩ | ⟨hrd, h⟩
      · obtain ⟨v, hv, h⟩ := run_optK h
        obtain ⟨hd, hq⟩ := run_putB h
        cases hf : fore (anOf ops) i o with
        | false =>
          obtain rfl : chk = [] := (hpe hf).1 hrd
          obtain ⟨φ1, tmps1, w1, l, hs, hle1, hk1, x1, hD1, hw1, hE1⟩ := turn hf
          obtain ⟨v', hvr, hrun⟩ := rd_sound x1.hH hE1 hv
          exact FinOK.steps hs hle1 hk1 (fin hf x1 hD1 (.one (step_value ho hw1 hrun)) φ1.le_refl x1.hH x1.hnx (Nat.le_refl _) (Keep.refl _ _) hvr ⟨hd, by unfold chkQ; exact hq⟩)
        | true =>
        exact ahead (u := v) (κ' := κ) hf hd φ.le_refl (fun k _ q => ⟨q, rfl⟩) (fun _ _ => rfl) (Nat.le_refl _) x.hH x.hnx
          (.inr (.inl ⟨(e1 v).trans hb, hrd, v, e3 v, fun _ => (e2 v H).trans hv⟩)) (fun hal => by
            rw [isAl_rd hal] at hrd
            cases hrd) (fun _ _ h => h) (fun _ _ => (e2 v H).trans hv) hq
      · rcases run_bK h with ⟨hal, h⟩ | ⟨hal, h⟩
        · cases hf : fore (anOf ops) i o with
          | false =>
            obtain ⟨φ1, tmps1, w1, l, hs, hle1, hk1, x1, hD1, hw1, hE1⟩ := turn hf
            refine FinOK.steps hs hle1 hk1 ?_
            obtain ⟨v, H', nx', he, h⟩ := run_eff h
            obtain ⟨φ2, v', w2, hs2, h1, h2, h3, h4, h5⟩ := eff_run (fb := fbOf c ds) (k := k) (cs := csAt c.rc cs0) (rest := l) ho hw1 (ef_sound x1.hH x1.hnx hE1 he)
            have hn : nx ≤ nx' := by have := le_len h2 h5; rw [x1.hnx, h4] at this; exact this
            exact fin hf x1 hD1 (.one hs2) h2 h3 h4 hn h5 h1 (run_putK h)
          | true =>
          obtain ⟨v, H', nx', he2, h⟩ := run_eff h
          obtain ⟨e, l, mk, hz, rfl, rfl, rfl⟩ := ef_al hal he2
          obtain ⟨hd, hq⟩ := run_putK h
          unfold chkQ at hq
          have hq := (run_bK hq).elim (fun q => q.2) (fun q => (run_bad q.2).elim)
          have hnone : hp H nx = none := by
            cases hx : hp H nx with
            | none => rfl
            | some ob => have := x.hH.dom nx ob hx; have := x.hnx; omega
          have hnx := x.hnx
          subst hnx
          refine ahead (u := mk φ.length) (κ' := fun p => if p = i then φ.length else κ p) (φ' := φ ++ [none]) hf hd (le_push φ _) (fun j hj q => ⟨?_, ?_⟩) (fun p hp => if_neg hp) (Nat.le_succ _) ?_ (by simp)
            (.inr (.inr ⟨(e1 _).trans hb, hal, e, l, mk, alR_congr (fun y hy => eva_tmPut tm o.dst _ y fun d hd q => by
              subst q
              exact hself hd (looks_op hy)) hz, ?_, ?_, ?_, ?_, fun d hd => ?_⟩)) (fun _ => ?_) (fun j ob hj => ?_) (fun hl => ?_) hq
          · rw [List.getElem?_append_left hj]; exact q
          · rw [hp_set, upd_other _ (by omega)]
          · rw [hp_set]; exact x.hH.pend _
          · dsimp only; rw [if_pos rfl]; exact get_push φ _
          · dsimp only; rw [if_pos rfl, hp_set, upd_same]
          · dsimp only; rw [if_pos rfl]; exact x.hlo
          · dsimp only; rw [if_pos rfl]; omega
          · dsimp only; rw [if_pos rfl]; exact e3 _ d hd
          · rw [if_pos rfl]; exact Nat.le_refl _
          · rw [hp_set]
            by_cases hjn : j = φ.length
            · subst hjn; rw [hnone] at hj; cases hj
            · rw [upd_other _ hjn]; exact hj
          · rw [isAl_ld hal] at hl; cases hl
        · have hc : fore (anOf ops) i o = false := by unfold fore; rw [hrd, hal]; rfl
          obtain ⟨φ1, tmps1, w1, l, hs, hle1, hk1, x1, hD1, hw1, hE1⟩ := turn hc
          refine FinOK.steps hs hle1 hk1 ?_
          rcases run_bK h with ⟨hct, h⟩ | ⟨hct, h⟩
          · cases he : ef P H nx tm o with
            | bad => rw [he] at h; cases h
            | val v H' nx' => rw [he] at h; cases h
            | dfr g args => rw [he] at h; cases h
            | rcv => rw [he] at h; cases h
            | call g args =>
              rw [he] at h
              obtain ⟨args', h1, hok, h2⟩ := ef_call hE1 he
              obtain ⟨r1, h3, h4⟩ := run_ask (show (Q.ask (.call g args false none H nx) _).run O = some r from h)
              obtain ⟨φ2, w2, hle, hH2, hl2, hkp, hn1, ho1⟩ := call_ok hO h3 x1.hH x1.hnx h1 (C := mkF (fbOf c ds) tmps1 (.inRegion ops (i :: l) :: k)) rfl (csAt c.rc cs0)
              cases hr1 : r1.o with
              | ret v =>
                rw [hr1] at ho1
                simp only [hr1] at h4
                obtain ⟨v', hv', hs2⟩ := ho1
                rw [fin_mk ho] at hs2
                exact fin hc x1 hD1 (.head (step_enter ho hw1 (h2 w1)) hs2) hle hH2 hl2 hn1 hkp hv' (run_putB h4)
              | pan v =>
                rw [hr1] at ho1
                simp only [hr1] at h4
                obtain ⟨v', hv', hs2⟩ := ho1
                rcases run_bK h4 with ⟨hdf, h4⟩ | ⟨_, h4⟩
                · have hdf := List.isEmpty_iff.1 hdf
                  obtain ⟨fd, hfd, h4⟩ := run_optK (show (optK P.funcs[c.fn]? (fun _ => Q.ret ⟨.pan v, c.rc, r1.H, r1.nx⟩) .bad).run O = some r from h4)
                  have h4 := run_ret h4
                  subst h4
                  have hds := x1.hds
                  rw [hdf] at hds
                  cases hds
                  exact ⟨φ2, w2, _, .head (step_enter ho hw1 (h2 w1)) hs2, hle, hH2, hl2, fun k _ q => hkp k q, rfl, rfl, v', hv', rfl, rfl, fd, hfd⟩
                · exact (run_bad h4).elim
            | pan v =>
              rw [he] at h
              obtain ⟨v', h1, h2⟩ := ef_pan hE1 he
              rcases run_bK h with ⟨hdf, h4⟩ | ⟨_, h4⟩
              · have hdf := List.isEmpty_iff.1 hdf
                obtain ⟨fd, hfd, h4⟩ := run_optK (show (optK P.funcs[c.fn]? (fun _ => Q.ret ⟨.pan v, c.rc, H, nx⟩) .bad).run O = some r from h4)
                have h4 := run_ret h4
                subst h4
                have hds := x1.hds
                rw [hdf] at hds
                cases hds
                exact ⟨φ1, w1, _, .one (step_pan ho hw1 (h2 w1)), φ1.le_refl, x1.hH, x1.hnx, fun k _ q => ⟨q, rfl⟩, rfl, rfl, v', h1, rfl, rfl, fd, hfd⟩
              · exact (run_bad h4).elim
          · rcases run_bK h with ⟨hfr, h⟩ | ⟨hfr, h⟩
            · simp only [Bool.and_eq_true] at hfr
              obtain ⟨e, y, hop⟩ : ∃ e y, o.op = .box e y := by
                have hb := hfr.2
                unfold isBox at hb
                split at hb
                · rename_i e y hop; exact ⟨e, y, hop⟩
                · cases hb
              unfold frQ at h
              simp only [hop] at h
              obtain ⟨u, hu, h⟩ := run_optK (show (optK (eva P tm y) (fun v => natF (Nat.succ nx) fun n => putK c.nt tm o.dst (eptrV v) (fun tm => chkQ P H tm ops chk (stepD P pl ops K rest c tm H n)) .bad) .bad).run O = some r from h)
              rw [natF_eq] at h
              obtain ⟨φ2, v', w2, hs2, h1, h2, h3, h4, h5⟩ := box_ok x1.hH x1.hnx hop (fun v hv => hE1 y (by rw [hop]; simp [Op.operands]) v hv) hu
              exact fin hc x1 hD1 (.one (step_value ho hw1 hs2)) h2 h3 h4 (Nat.le_succ _) h5 h1 (run_putK h)
            · obtain ⟨v, H', nx', he, h⟩ := run_eff h
              obtain ⟨φ2, v', w2, hs2, h1, h2, h3, h4, h5⟩ := eff_run (fb := fbOf c ds) (k := k) (cs := csAt c.rc cs0) (rest := l) ho hw1 (ef_sound x1.hH x1.hnx hE1 he)
              have hn : nx ≤ nx' := by have := le_len h2 h5; rw [x1.hnx, h4] at this; exact this
              exact fin hc x1 hD1 (.one hs2) h2 h3 h4 hn h5 h1 (run_putK h)
    | false =>
      obtain ⟨hd, hq⟩ := run_putK (hn0 rfl)
      cases hc : fore (anOf ops) i o with
      | true =>
        unfold chkQ at hq
        rcases run_bK hq with ⟨hchk, hq⟩ | ⟨_, hq⟩
        · refine ahead (u := undef) (κ' := fun p => if p = i then nx else κ p) hc hd φ.le_refl (fun k _ q => ⟨q, rfl⟩) (fun p hp => if_neg hp) (Nat.le_refl _) x.hH x.hnx
            (.inl ⟨(e1 _).trans hb, e3 _⟩) (fun _ => ?_) (fun _ _ h => h) (fun _ hw => ?_) hq
          · rw [if_pos rfl]; exact Nat.le_refl _
          · rw [e1, hb] at hw; cases hw
        · exact (run_bad hq).elim
      | false =>
        obtain ⟨φ1, tmps1, w1, l, hs, hle1, hk1, x1, hD1, hw1, _⟩ := turn hc
        exact FinOK.steps hs hle1 hk1 (fin hc x1 hD1 (.one (step_not ho hw1)) φ1.le_refl x1.hH x1.hnx (Nat.le_refl _) (Keep.refl _ _) (.flat undef rfl) (run_putK (hn0 rfl)))
end
end Go.Ev
