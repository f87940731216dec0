/- The evaluator's code and the model's: deferred calls, operations, regions. -/
import Derived.Test.YthjhonhhbddhkaaGreatDoorG2
import Derived.Laws.Strings
import Derived.Test.YthjhonhhbddhkaaGreatDoorProg
import Derived.KernelRfl
namespace Go.Ev
noncomputable section
open Go.RowKit (Below)
variable {P : Program} {W w w' w1 : World} {f fn : FuncId} {cs cs0 : List Frame} {r r1 : Rt} {fr fr' fr1 : Frame} {φ φ' φ1 : Phi} {H H' H1 : T OB} {nx nx' nx1 nt lo hi : Nat} {tm : T Value} {tmps : Array Value} {ops : Array Oper}
  {todo k : List Item} {c : Cg} {ds : List Deferred} {kd : Bool} {O : Cfg → Option Rt} {pl : Pol}
/-- A frame at hand. -/
structure Fx (P : Program) (W : World) (lo : Nat) (cs0 : List Frame) (c : Cg) (φ : Phi) (H : T OB) (nx : Nat) (tmps : Array Value) (ds : List Deferred) (w : World) : Prop where
  hH : HR P W φ (hp H) w
  hnx : φ.length = nx
  hlo : lo ≤ nx
  hsz : tmps.size = c.nt
  hds : DsR P φ c.df ds
  hrc : RcvR φ c.kd c.rp c.rc cs0
def AtOK (P : Program) (W : World) (c : Cg) (tm : T Value) (todo : List Item) (H : T OB) (nx : Nat) (r : Rt) : Prop :=
  ∀ φ w lo tmps ds cs0, Fx P W lo cs0 c φ H nx tmps ds w → TRm φ (fun _ => False) tm tmps → FinOK P W c.kd c.fn lo cs0 c.rc φ H r (mkF (fbOf c ds) tmps todo) w
def CallOK (P : Program) (W : World) (f : FuncId) (args : List Value) (kd : Bool) (rp : Option Value) (H : T OB) (nx : Nat) (r : Rt) : Prop :=
  ∀ φ w args' cs0, HR P W φ (hp H) w → φ.length = nx → LR φ args args' → RcvR φ kd rp false cs0 → FinOK P W kd f nx cs0 false φ H r (Frame.enter P f args'.toArray (kindOf kd)) w
def CfgOK (P : Program) (W : World) (q : Cfg) (r : Rt) : Prop := match q with
  | .call f args kd rp H nx => CallOK P W f args kd rp H nx r
  | .at c tm todo H nx => AtOK P W c tm todo H nx r
def OrcOK (P : Program) (W : World) (O : Cfg → Option Rt) : Prop := ∀ q r, O q = some r → CfgOK P W q r
def KOK (P : Program) (W : World) (O : Cfg → Option Rt) (K : Kt) (todo : List Item) : Prop := ∀ c tm H nx r, (K c tm H nx).run O = some r → AtOK P W c tm todo H nx r
theorem AtOK.step1 {todo' : List Item} (hs : ∀ (ds : List Deferred) (tmps : Array Value) (cs : List Frame) (w : World), Steps P (lone (mkF (fbOf c ds) tmps todo) cs w) (lone (mkF (fbOf c ds) tmps todo') cs w)) (h : AtOK P W c tm todo' H nx r) :
    AtOK P W c tm todo H nx r := fun φ w lo tmps ds cs0 x htr => (h φ w lo tmps ds cs0 x htr).step1 (hs _ _ _ _)
theorem keep_all (hk : ∀ k, k < φ.length → φ[k]? = some none → φ'[k]? = some none ∧ hp H' k = hp H k) : Keep φ φ' (hp H) (hp H') := fun k q => hk k (List.getElem?_eq_some_iff.1 q).1 q
/-! what was deferred -/
inductive MdR (φ : Phi) : Mq → Option Value → Prop
  | ret : MdR φ .ret none
  | pan {v v' : Value} (h : VR φ v v') : MdR φ (.pan v) (some v')
theorem modeOf_ne (m : Option Value) : modeOf m ≠ .run := by cases m <;> simp [modeOf]
theorem unwQ_ok (hO : OrcOK P W O) : ∀ (l : List (FuncId × List Value)) (m : Mq) (mv : Option Value) (φ : Phi) (H : T OB) (nx : Nat) (ds : List Deferred) (w : World), HR P W φ (hp H) w → φ.length = nx → lo ≤ nx → DsR P φ l ds → MdR φ m mv →
    TRm φ (fun _ => False) tm tmps → (unwQ P pl c tm l m H nx).run O = some r → FinOK P W c.kd c.fn lo cs0 c.rc φ H r { mkF (fbOf c ds) tmps todo with mode := modeOf mv } w
  | [], m, mv, φ, H, nx, ds, w, hH, hnx, hlo, hds, hm, htr, h => by
    cases hds
    have h : (endQ P pl c tm m H nx).run O = some r := h
    unfold endQ at h
    cases hm with
    | ret => exact outQ_ok hH hnx rfl rfl htr h
    | @pan v v' hv =>
      obtain ⟨fd, hfd, h⟩ := run_optK h
      have h := run_ret h
      subst h
      exact ⟨φ, w, _, .refl _ _, φ.le_refl, hH, hnx, fun k _ q => ⟨q, rfl⟩, rfl, rfl, v', hv, rfl, rfl, fd, hfd⟩
  | (g, args) :: l, m, mv, φ, H, nx, ds, w, hH, hnx, hlo, hds, hm, htr, h => by
    cases hds with
    | @cons _ d' _ ds' hd hl =>
      obtain ⟨a', cap', rfl, hLR, hok⟩ := hd
      obtain ⟨r1, h1, h2⟩ := run_ask (show (Q.ask (.call g args true (rpOf m) H nx) fun r => bkQ m r (unwQ P pl c tm l)).run O = some r from h)
      have hinv : (invoke (.fn (.func g) ⟨cap'⟩) a').run P w = .ok (.enter g (a' ++ ⟨cap'⟩)) w := run_callFunc hok _ _
      have e : (a' ++ ⟨cap'⟩ : Array Value) = (a'.toList ++ cap').toArray := Array.ext' (by simp)
      have hst := step_defer (P := P) (fr := { mkF (fbOf c ({ target := .fn (.func g) ⟨cap'⟩, args := a' } :: ds')) tmps todo with mode := modeOf mv }) (cs := csAt c.rc cs0) (modeOf_ne mv) rfl rfl hinv
      rw [e] at hst
      have hrcv : RcvR φ true (rpOf m) false ({ mkF (fbOf c ds') tmps todo with mode := modeOf mv } :: csAt c.rc cs0) := fun _ => by
        cases hm with
        | ret => exact fun F hF => (rcv_deferred (C := { mkF (fbOf c ds') tmps todo with mode := modeOf none }) (cs := csAt c.rc cs0) hF).trans rfl
        | pan hv => exact ⟨rfl, _, _, _, [], rfl, rfl, hv⟩
      obtain ⟨φ1, w1, frl, s1, hle, hH1, hl1, hk1, hkk, hff, ho1⟩ := hO _ _ h1 φ w _ _ hH hnx hLR hrcv
      unfold bkQ at h2
      cases hr1 : r1.o with
      | pan v => rw [hr1] at h2; cases h2
      | ret v =>
        rw [hr1] at h2 ho1
        obtain ⟨v', hv', hgo⟩ := ho1
        have h2 : (unwQ P pl c tm l (bK r1.rc .ret m) r1.H r1.nx).run O = some r := h2
        have hlen := le_len hle (keep_all (fun k hk q => hk1 k (by rw [← hnx]; exact hk) q))
        -- the frame that deferred, behind the call
        have back : ∃ mv1, MdR φ1 (bK r1.rc .ret m) mv1 ∧ Steps P (lone frl (csAt r1.rc ({ mkF (fbOf c ds') tmps todo with mode := modeOf mv } :: csAt c.rc cs0)) w1) (lone { mkF (fbOf c ds') tmps todo with mode := modeOf mv1 } (csAt c.rc cs0) w1) := by
          cases hrc : r1.rc with
          | false =>
            cases hm with
            | ret => exact ⟨none, .ret, .one (step_going_returned (c := { mkF (fbOf c ds') tmps todo with mode := modeOf none }) hkk hgo)⟩
            | pan hv => exact ⟨some _, .pan (hv.mono hle), .one (step_going_returned (c := { mkF (fbOf c ds') tmps todo with mode := modeOf (some _) }) hkk hgo)⟩
          | true =>
            refine ⟨none, .ret, ?_⟩
            cases hm with
            | ret => exact .one (step_going_returned (c := { mkF (fbOf c ds') tmps todo with mode := modeOf none }) hkk hgo)
            | @pan u u' hv => exact .one (step_going_returned (c := { mkF (fbOf c ds') tmps todo with mode := .panicking [{ v := u', recovered := true }] }) hkk hgo)
        obtain ⟨mv1, hm1, hs1⟩ := back
        have ih := unwQ_ok hO l (bK r1.rc .ret m) mv1 φ1 r1.H r1.nx ds' w1 hH1 hl1 (by omega) (hl.mono hle) hm1 (htr.mono hle) h2
        exact ih.steps (.head hst (s1.trans hs1)) hle fun k hk q => hk1 k (by omega) q
theorem leaveQ_ok (hO : OrcOK P W O) (ht : todo = [] ∨ ∃ k, todo = .code .ret :: k) : KOK P W O (leaveQ P pl) todo := fun c tm H nx r h φ w lo tmps ds cs0 x htr => by
  have hs : Steps P (lone (mkF (fbOf c ds) tmps todo) (csAt c.rc cs0) w) (lone { mkF (fbOf c ds) tmps todo with mode := modeOf none } (csAt c.rc cs0) w) := by
    rcases ht with rfl | ⟨k, rfl⟩
    · exact .one (step_end (b := mkF (fbOf c ds) #[] []) (a := ⟨tmps, ds⟩))
    · exact .one (step_ret (b := mkF (fbOf c ds) #[] []) (a := ⟨tmps, ds⟩))
  exact (unwQ_ok hO c.df .ret none φ H nx ds w x.hH x.hnx x.hlo x.hds .ret htr h).step1 hs
/-! a call -/
theorem call_ok (hO : OrcOK P W O) {g : FuncId} {args args' : List Value} (h1 : O (.call g args false none H nx) = some r1) (hH : HR P W φ (hp H) w) (hnx : φ.length = nx) (hLR : LR φ args args') {C : Frame} (hC : C.mode = .run) (cs : List Frame) :
    ∃ φ1 w1, φ.le φ1 ∧ HR P W φ1 (hp r1.H) w1 ∧ φ1.length = r1.nx ∧ Keep φ φ1 (hp H) (hp r1.H) ∧ nx ≤ r1.nx ∧ (match r1.o with
      | .ret v => ∃ v', VR φ1 v v' ∧ Steps P (lone (Frame.enter P g args'.toArray .normal) (C :: cs) w) (lone (C.finish v') cs w1)
      | .pan v => ∃ v', VR φ1 v v' ∧ Steps P (lone (Frame.enter P g args'.toArray .normal) (C :: cs) w) (lone { C with mode := modeOf (some v') } cs w1)) := by
  have hC' : ∀ l, C.mode ≠ .panicking l := fun l q => by rw [hC] at q; cases q
  obtain ⟨φ1, w1, frl, s1, hle, hH1, hl1, hk1, hkk, hff, ho1⟩ := hO _ _ h1 φ w _ (C :: cs) hH hnx hLR (fun q => by cases q)
  have hkeep : Keep φ φ1 (hp H) (hp r1.H) := keep_all (fun k hk q => hk1 k (by rw [← hnx]; exact hk) q)
  rw [csAt_run _ hC', csAt_run _ hC'] at s1
  refine ⟨φ1, w1, hle, hH1, hl1, hkeep, by have := le_len hle hkeep; omega, ?_⟩
  cases hr1 : r1.o with
  | ret v =>
    rw [hr1] at ho1
    obtain ⟨v', hv', hgo⟩ := ho1
    refine ⟨v', hv', s1.trans (.one (step_leave_returned ?_))⟩
    obtain ⟨a, b, c⟩ := hgo
    exact ⟨a, b, hkk, c⟩
  | pan v =>
    rw [hr1] at ho1
    obtain ⟨v', hv', hgo⟩ := ho1
    refine ⟨v', hv', s1.trans (.one ?_)⟩
    have := step_going_panicked (c := C) (cs := cs) hgo
    rw [show raised C.mode [{ v := v', recovered := false }] = modeOf (some v') from by rw [hC]; rfl] at this
    exact this
/-- An operation that is no reader, in the model. -/
theorem eff_run {fb : FB} {o : Oper} {i : Nat} {rest : List Nat} {v : Value} (ho : ops[i]? = some o) (hw : Region.wanted o (yielded ops tmps) = true)
    (he : EfOk P W φ H w ((execOp (evalA tmps) o).run P w) v H' nx') :
    ∃ φ' v' w', step P (lone (mkF fb tmps (.inRegion ops (i :: rest) :: k)) cs w) = .next (lone (mkF fb (putA tmps o.dst v') (.inRegion ops rest :: k)) cs w') ∧
      VR φ' v v' ∧ φ.le φ' ∧ HR P W φ' (hp H') w' ∧ φ'.length = nx' ∧ Keep φ φ' (hp H) (hp H') := by
  obtain ⟨φ', v', w', x, hr, hx, h1, h2, h3, h4, h5⟩ := he
  refine ⟨φ', v', w', ?_, h1, h2, h3, h4, h5⟩
  rcases hx with rfl | ⟨rfl, rfl⟩
  · exact step_value ho hw hr
  · exact step_skipv ho hw hr
theorem noMask {l : List Operand} : ∀ t, Operand.tmp t ∈ l → ¬ (fun (_ : Nat) => False) t := fun _ _ h => h
theorem Fx.next (x : Fx P W lo cs0 c φ H nx tmps ds w) (hle : φ.le φ') (hH : HR P W φ' (hp H') w') (hl : φ'.length = nx') (hn : nx ≤ nx') {tmps' : Array Value} (hsz : tmps'.size = tmps.size) : Fx P W lo cs0 c φ' H' nx' tmps' ds w' :=
  ⟨hH, hl, Nat.le_trans x.hlo hn, hsz.trans x.hsz, x.hds.mono hle, x.hrc.mono hle⟩
/-! variables that are held by value -/
theorem TRm.refine {M : Nat → Prop} (h : TRm φ M tm tmps) {d : Tmp} {v v' : Value} (hd : tmps[d]? = some v') (hv : VR φ v v') : TRm φ M (tmPut tm (some d) v) tmps := fun t u q => by
  rw [get_tmPut] at q
  split at q
  · rename_i e
    cases e
    cases q
    exact .inr ⟨v', hd, hv⟩
  · exact h t u q
/-- A variable's block, whose cells ours tell. -/
theorem box_ok (hH : HR P W φ (hp H) w) (hnx : φ.length = nx) {o : Oper} {e : TypeId} {x : Operand} (ho : o.op = .box e x) (hE : ∀ v, eva P tm x = some v → VR φ v (evalA tmps x)) {u : Value} (hu : eva P tm x = some u) :
    ∃ φ' v' w', (execOp (evalA tmps) o).run P w = .ok (.value v') w' ∧ VR φ' (eptrV u) v' ∧ φ.le φ' ∧ HR P W φ' (hp H) w' ∧ φ'.length = nx + 1 ∧ Keep φ φ' (hp H) (hp H) := by
  have hc := (hE u hu).cells
  have hb : Below w.heap.size w (w.alloc (.cells (evalA tmps x).cells e)) := (Below.refl w.heap.size w).alloc (Nat.le_refl _) _
  refine ⟨φ ++ [some ⟨w.heap.size, 0, 0, some (evalA tmps x).cells⟩], .pointer (some ⟨w.heap.size, 0, none⟩), w.alloc (.cells (evalA tmps x).cells e), ?_, ?_, le_push φ _, ?_, by simp [hnx], ?_⟩
  · simp [execOp, ho, Instr.box, newVar, newRow]
  · refine VR.ep (e := ⟨w.heap.size, 0, 0, some (evalA tmps x).cells⟩) (get_push φ _) rfl (by rw [hc.len]; simp) (fun j a b ha hb => ?_)
    rw [Nat.zero_add] at hb
    exact (hc.at_ j a b ha (by simpa using hb)).mono (le_push φ _)
  · refine (hH.grown hb).ghost (el := e) (fz := (0, 0)) rfl (Go.heap_alloc_new w _) (fun k y ob hk _ _ q => ?_)
    have := hH.rng k y hk
    have q : y.r = w.heap.size := q
    omega
  · intro k hk
    refine ⟨?_, rfl⟩
    rw [List.getElem?_append_left (List.getElem?_eq_some_iff.1 hk).1]; exact hk
theorem frStore_ok (hH : HR P W φ (hp H) w) (hnx : φ.length = nx) {o : Oper} {t : TypeId} {d : Tmp} {x : Operand} (ho : o.op = .store t (.tmp d) x) (hE : EvR P φ tm (evalA tmps) [.tmp d, x]) {b n s : Nat} {tr : T Value} {el : TypeId} {u : Value}
    (ha : eva P tm (.tmp d) = some (.pointer (some ⟨b, 0, none⟩))) (hu : eva P tm x = some u) (hg : H.get (bits b) = some (.cells n tr el)) (hs : szOf P t = some s) (hn : n = s) (hl : u.cells.toList.length = s) (hone : u.cells.toList.all oneCell = true) :
    ∃ φ' v' w' y, (execOp (evalA tmps) o).run P w = .ok y w' ∧ (y = .value v' ∨ (y = .skip ∧ v' = undef)) ∧ v' = undef ∧ VR φ' (eptrV u) (evalA tmps (.tmp d)) ∧ φ.le φ' ∧ HR P W φ' (hp (set H (bits b) (some .dead))) w' ∧ φ'.length = nx + 1 ∧ Keep φ φ' (hp H) (hp (set H (bits b) (some .dead))) := by
  subst hn
  have hef : efStore P H nx t (eva P tm (.tmp d)) (eva P tm x) = .val undef (set H (bits b) (some (.cells n (fromL u.cells.toList 0 tr) el))) nx := by
    rw [ha, hu]
    show cellsK (H.get (bits b)) (fun n tr e => optK (szOf P t) (fun s => bif Nat.beq u.cells.toList.length s && Nat.ble (0 + s) n && u.cells.toList.all oneCell then
      fromLK u.cells.toList 0 tr fun tr => setK (bits b) H (some (.cells n tr e)) fun H => Eff.val undef H nx else .bad) .bad) .bad = _
    rw [hg]
    show optK (szOf P t) (fun s => bif Nat.beq u.cells.toList.length s && Nat.ble (0 + s) n && u.cells.toList.all oneCell then
      fromLK u.cells.toList 0 tr fun tr => setK (bits b) H (some (.cells n tr el)) fun H => Eff.val undef H nx else .bad) .bad = _
    rw [hs, optK_some, hl, hone, fromLK_fromL, setK_set]
    have e1 : Nat.beq n n = true := Nat.beq_refl n
    have e2 : Nat.ble (0 + n) n = true := by rw [Nat.zero_add]; exact Nat.ble_eq_true_of_le (Nat.le_refl n)
    rw [e1, e2]
    rfl
  obtain ⟨φ1, v', w1, y, hr, hy, h1, h2, h3, h4, h5⟩ := ef_store hH hnx ho hE hef
  obtain ⟨en, hb, _, hp1⟩ := (hE (.tmp d) (by simp) _ ha).ptr_inv
  have hb1 := h2 b en hb
  have hg1 : hp (set H (bits b) (some (.cells n (fromL u.cells.toList 0 tr) el))) b = some (.cells n (fromL u.cells.toList 0 tr) el) := by rw [hp_set, upd_same]
  obtain ⟨c, el', hrow, hrsz, hrn, hrc⟩ := h3.cells hg1 hb1
  have hk := h3.kill hg1 hb1
  rw [hp_set, upd_upd, ← hp_set] at hk
  have hgh := hk.ghost (e := ⟨en.r, en.sz, en.es, some c⟩) rfl hrow (fun k x ob hk' hgk hlk hr => by
    rw [hp_set] at hgk
    by_cases hkb : k = b
    · subst hkb; rw [upd_same] at hgk; cases hgk; cases hlk
    · rw [upd_other _ hkb] at hgk
      exact hkb (h3.inj k b _ _ x en hk' hb1 (by rw [hp_set, upd_other _ hkb]; exact hgk) hg1 hlk rfl hr))
  refine ⟨_, v', w1, y, hr, hy, h1.eq_of_flat rfl, ?_, Phi.le_trans h2 (le_push φ1 _), hgh, by simp [h4], ?_⟩
  · rw [hp1]
    refine VR.ep (e := ⟨en.r, en.sz, en.es, some c⟩) (c := c) (get_push φ1 _) rfl (by rw [hl]; omega) (fun j a b' hja hjb => ?_)
    have hjl : j < u.cells.toList.length := (List.getElem?_eq_some_iff.1 hja).1
    obtain ⟨a', g1, g2⟩ := hrc j (by omega) a (by rw [get_fromL, if_pos (by omega), Nat.sub_zero]; exact hja)
    rw [Nat.zero_add, g1] at hjb
    cases hjb
    exact g2.mono (le_push φ1 _)
  · intro k hk'
    obtain ⟨q1, q2⟩ := h5 k hk'
    refine ⟨?_, ?_⟩
    · rw [List.getElem?_append_left (List.getElem?_eq_some_iff.1 q1).1]; exact q1
    · rw [hp_set, upd_other]
      intro q; subst q; rw [hb] at hk'; cases hk'
theorem isFr_inv {o : Oper} (h : isFr pl fn o = true) : (∃ e x, o.op = .box e x) ∨ ∃ t d x, o.op = .store t (.tmp d) x := by
  unfold isFr at h
  split at h
  · rename_i e x ho; exact .inl ⟨e, x, ho⟩
  · rename_i t d x ho; exact .inr ⟨t, d, x, ho⟩
  · cases h
/-! a region without a draw -/
theorem stepR_ok (hO : OrcOK P W O) {K : Kt} (hK : KOK P W O K k) : ∀ l : List Nat, KOK P W O (stepR P pl ops K l) (.inRegion ops l :: k)
  | [], c, tm, H, nx, r, h => (hK c tm H nx r h).step1 fun ds tmps cs w => .one (step_region_end (b := mkF (fbOf c ds) #[] []) (a := ⟨tmps, ds⟩))
  | i :: rest, c, tm, H, nx, r, h => fun φ w lo tmps ds cs0 x htr => by
    obtain ⟨o, ho, h⟩ := run_optK (show (Ev.optK ops[i]? (opR P pl ops c tm H nx (stepR P pl ops K rest)) .bad).run O = some r from h)
    unfold opR at h
    obtain ⟨b, hb, hy, hn⟩ := run_guard h
    have hw : Region.wanted o (yielded ops tmps) = b := wanted_of htr (fun _ _ _ _ h => h) hb
    have hE : EvR P φ tm (evalA tmps) o.op.operands.toList := EvR_of x.hH.gl htr noMask
    have next : ∀ {φ' : Phi} {H' : T OB} {nx' : Nat} {w' : World} {v v' : Value},
        Steps P (lone (mkF (fbOf c ds) tmps (.inRegion ops (i :: rest) :: k)) (csAt c.rc cs0) w) (lone (mkF (fbOf c ds) (putA tmps o.dst v') (.inRegion ops rest :: k)) (csAt c.rc cs0) w') →
        φ.le φ' → HR P W φ' (hp H') w' → φ'.length = nx' → nx ≤ nx' → Keep φ φ' (hp H) (hp H') → VR φ' v v' → ((∀ d, o.dst = some d → d < c.nt) ∧ (stepR P pl ops K rest c (tmPut tm o.dst v) H' nx').run O = some r) →
        FinOK P W c.kd c.fn lo cs0 c.rc φ H r (mkF (fbOf c ds) tmps (.inRegion ops (i :: rest) :: k)) w := fun hs hle hH' hl hn hkp hv hq => by
      obtain ⟨hd, hq⟩ := hq
      have hd' : ∀ d, o.dst = some d → d < tmps.size := fun d h => by rw [x.hsz]; exact hd d h
      exact FinOK.steps hs hle (fun k _ q => hkp k q) (stepR_ok hO hK rest _ _ _ _ _ hq _ _ _ _ ds cs0 (x.next hle hH' hl hn (putA_size ..)) ((htr.mono hle).put hd' hv fun t h _ => h))
    cases b with
    | false => exact next (.one (step_not ho hw)) φ.le_refl x.hH x.hnx (Nat.le_refl _) (Keep.refl _ _) (.flat undef rfl) (run_putK (hn rfl))
    | true =>
      have h := hy rfl
      unfold doR at h
      rcases run_bK h with ⟨hrd, h⟩ | ⟨hrd, h⟩
      · obtain ⟨v, hv, h⟩ := run_optK h
        obtain ⟨v', h1, h2⟩ := rd_sound x.hH hE hv
        exact next (.one (step_value ho hw h2)) φ.le_refl x.hH x.hnx (Nat.le_refl _) (Keep.refl _ _) h1 (run_putB h)
      · rcases run_bK h with ⟨hct, h⟩ | ⟨hct, h⟩
        · cases he : ef P H nx tm o with
          | bad => rw [he] at h; cases h
          | val v H' nx' => rw [he] at h; cases h
          | call g args =>
            rw [he] at h
            obtain ⟨args', h1, hok, h2⟩ := ef_call hE he
            obtain ⟨r1, h3, h4⟩ := run_ask (show (Q.ask (.call g args false none H nx) _).run O = some r from h)
            obtain ⟨φ1, w1, hle, hH1, hl1, hkp, hn1, ho1⟩ := call_ok hO h3 x.hH x.hnx h1 (C := mkF (fbOf c ds) tmps (.inRegion ops (i :: rest) :: k)) rfl (csAt c.rc cs0)
            cases hr1 : r1.o with
            | ret v =>
              rw [hr1] at ho1
              simp only [hr1] at h4
              obtain ⟨v', hv', hs⟩ := ho1
              rw [fin_mk ho] at hs
              exact next (.head (step_enter ho hw (h2 w)) hs) hle hH1 hl1 hn1 hkp hv' (run_putB h4)
            | pan v =>
              rw [hr1] at ho1
              simp only [hr1] at h4
              obtain ⟨v', hv', hs⟩ := ho1
              exact (unwQ_ok hO c.df (.pan v) (some v') φ1 r1.H r1.nx ds w1 hH1 hl1 (by have := x.hlo; omega) (x.hds.mono hle) (.pan hv') (htr.mono hle) h4).steps (.head (step_enter ho hw (h2 w)) hs) hle fun k _ q => hkp k q
          | dfr g args =>
            rw [he] at h
            obtain ⟨d', h1, h2⟩ := ef_dfr hE he
            obtain ⟨hd, hq⟩ := run_putK (show (putK c.nt tm o.dst undef (fun tm => stepR P pl ops K rest ⟨c.fn, c.nt, c.kd, (g, args) :: c.df, c.rp, c.rc⟩ tm H nx) .bad).run O = some r from h)
            have hd' : ∀ d, o.dst = some d → d < tmps.size := fun d h => by rw [x.hsz]; exact hd d h
            have hx : Fx P W lo cs0 ⟨c.fn, c.nt, c.kd, (g, args) :: c.df, c.rp, c.rc⟩ φ H nx (putA tmps o.dst undef) (d' :: ds) w := ⟨x.hH, x.hnx, x.hlo, (putA_size ..).trans x.hsz, .cons h1 x.hds, x.hrc⟩
            exact FinOK.step1 (.one (step_dfr ho hw (h2 w))) (stepR_ok hO hK rest _ _ _ _ _ hq _ _ _ _ _ _ hx (htr.put hd' (.flat _ rfl) fun t h _ => h))
          | pan v =>
            rw [he] at h
            obtain ⟨v', h1, h2⟩ := ef_pan hE he
            exact (unwQ_ok hO c.df (.pan v) (some v') φ H nx ds w x.hH x.hnx x.hlo x.hds (.pan h1) htr h).step1 (.one (step_pan ho hw (h2 w)))
          | rcv =>
            rw [he] at h
            have h : (rcvQ c fun c v => putK c.nt tm o.dst v (fun tm => stepR P pl ops K rest c tm H nx) .bad).run O = some r := h
            have h2 := ef_rcv (ρ := evalA tmps) he w
            have none' : tryRecover (mkF (fbOf c ds) tmps (.inRegion ops (i :: rest) :: k)) (csAt c.rc cs0) = none → (putK c.nt tm o.dst .nilIface (fun tm => stepR P pl ops K rest c tm H nx) .bad).run O = some r →
                FinOK P W c.kd c.fn lo cs0 c.rc φ H r (mkF (fbOf c ds) tmps (.inRegion ops (i :: rest) :: k)) w := fun ht hq =>
              next (.one (step_rcv_none ho hw h2 ht)) φ.le_refl x.hH x.hnx (Nat.le_refl _) (Keep.refl _ _) (.flat .nilIface rfl) (run_putK hq)
            obtain ⟨cfn, cnt, ckd, cdf, crp, crc⟩ := c
            have hrc : RcvR φ ckd crp crc cs0 := x.hrc
            cases ckd with
            | false => exact none' (rcv_normal rfl) h
            | true =>
              have hk2 : (mkF (fbOf ⟨cfn, cnt, true, cdf, crp, crc⟩ ds) tmps (.inRegion ops (i :: rest) :: k)).kind = .deferred := rfl
              have hrc := hrc rfl
              cases crp with
              | none => exact none' (hrc _ hk2) h
              | some v =>
                obtain ⟨q, C, rs, v', older, hcs, hC, hv⟩ := hrc
                subst q hcs
                obtain ⟨hd, hq⟩ := run_putK (show (putK cnt tm o.dst v (fun tm => stepR P pl ops K rest ⟨cfn, cnt, true, cdf, none, true⟩ tm H nx) .bad).run O = some r from h)
                have hsz : tmps.size = cnt := x.hsz
                have hd' : ∀ d, o.dst = some d → d < tmps.size := fun d h => by rw [hsz]; exact hd d h
                have ht : tryRecover (mkF (fbOf ⟨cfn, cnt, true, cdf, some v, false⟩ ds) tmps (.inRegion ops (i :: rest) :: k)) (C :: rs) = some (v', markC (C :: rs)) := by
                  rw [rcv_deferred hk2]
                  unfold markC
                  simp only [hC]
                have hx : Fx P W lo (C :: rs) ⟨cfn, cnt, true, cdf, none, true⟩ φ H nx (putA tmps o.dst v') ds w := ⟨x.hH, x.hnx, x.hlo, (putA_size ..).trans hsz, x.hds, fun _ F hF => rcv_mark (cs := C :: rs) hF⟩
                exact FinOK.steps (rc1 := true) (.one (step_rcv_some ho hw h2 ht)) φ.le_refl (fun _ _ q => ⟨q, rfl⟩) (stepR_ok hO hK rest _ _ _ _ _ hq _ _ _ _ _ _ hx (htr.put hd' hv fun t h _ => h))
        · rcases run_bK h with ⟨hfr, h⟩ | ⟨hfr, h⟩
          · rcases isFr_inv hfr with ⟨e, y, hop⟩ | ⟨t, d, y, hop⟩
            · unfold frQ at h
              simp only [hop] at h
              obtain ⟨u, hu, h⟩ := run_optK (show (optK (eva P tm y) (fun v => natF (Nat.succ nx) fun n => putK c.nt tm o.dst (eptrV v) (fun tm => stepR P pl ops K rest c tm H n) .bad) .bad).run O = some r from h)
              rw [natF_eq] at h
              obtain ⟨φ', v', w', hs, h1, h2, h3, h4, h5⟩ := box_ok x.hH x.hnx hop (fun v hv => hE y (by rw [hop]; simp [Op.operands]) v hv) hu
              exact next (.one (step_value ho hw hs)) h2 h3 h4 (Nat.le_succ _) h5 h1 (run_putK h)
            · unfold frQ at h
              simp only [hop] at h
              obtain ⟨b, off, ha, h⟩ := run_ptrQ (show (frStore P c.nt tm H nx t d o.dst (eva P tm (.tmp d)) (eva P tm y) fun tm H nx => stepR P pl ops K rest c tm H nx).run O = some r from h)
              obtain ⟨u, hu, h⟩ := run_optK h
              obtain ⟨n, tr, el, hg, h⟩ := run_cellsQ h
              obtain ⟨s, hs, h⟩ := run_optK h
              obtain ⟨hc, hq⟩ := run_bif h
              rw [setK_set, natF_eq] at hq
              simp only [Bool.and_eq_true] at hc
              have hn := beq_eq hc.2.1
              have hl := beq_eq hc.2.2.1
              obtain ⟨hd, hq1⟩ := run_putK hq
              obtain ⟨hd2, hq2⟩ := run_putK hq1
              have hoff := beq_eq hc.1
              clear h hq hq1
              subst hoff
              obtain ⟨φ', v', w', y', hr, hy', hv', h1, h2, h3, h4, h5⟩ := frStore_ok x.hH x.hnx hop (by rw [hop] at hE; exact hE) ha hu hg hs hn hl hc.2.2.2
              have hst : step P (lone (mkF (fbOf c ds) tmps (.inRegion ops (i :: rest) :: k)) (csAt c.rc cs0) w) = .next (lone (mkF (fbOf c ds) (putA tmps o.dst v') (.inRegion ops rest :: k)) (csAt c.rc cs0) w') := by
                rcases hy' with rfl | ⟨rfl, rfl⟩
                · exact step_value ho hw hr
                · exact step_skipv ho hw hr
              have hdd : d < tmps.size := by rw [x.hsz]; exact hd d rfl
              have hd2' : ∀ e, o.dst = some e → e < tmps.size := fun e q => by rw [x.hsz]; exact hd2 e q
              have htd : tmps[d]? = some (evalA tmps (.tmp d)) := by
                rw [Array.getElem?_eq_getElem hdd]
                show _ = some (tmps.getD d undef)
                simp [Array.getD, hdd]
              have ht1 := (htr.mono h2).refine htd h1
              refine FinOK.steps (.one hst) h2 (fun k _ q => h5 k q) (stepR_ok hO hK rest _ _ _ _ _ hq2 _ _ _ _ ds cs0 (x.next h2 h3 h4 (Nat.le_succ _) (putA_size ..)) ?_)
              exact ht1.put hd2' (by rw [hv']; exact .flat undef rfl) fun t h _ => h
          · obtain ⟨v, H', nx', he, h⟩ := run_eff h
            obtain ⟨φ', v', w', hs, h1, h2, h3, h4, h5⟩ := eff_run (fb := fbOf c ds) (k := k) (cs := csAt c.rc cs0) (rest := rest) ho hw (ef_sound x.hH x.hnx hE he)
            have hn : nx ≤ nx' := by have := le_len h2 h5; rw [x.hnx, h4] at this; exact this
            exact next (.one hs) h2 h3 h4 hn h5 h1 (run_putK h)
/-! a region with a draw -/
theorem stepD_ok (hO : OrcOK P W O) {K : Kt} (hK : KOK P W O K k) : ∀ (l : List (Nat × List Nat)) (tm : T Value) (H : T OB) (nx : Nat) (φ : Phi) (tmps : Array Value) (w : World) (π done lds : List Nat) (κ : Nat → Nat),
    (stepD P pl ops K l c tm H nx).run O = some r → Fx P W lo cs0 c φ H nx tmps ds w → DrawC P φ H tm tmps ops done lds l π κ lo nx → LoadP P H tm ops done π → FinOK P W c.kd c.fn lo cs0 c.rc φ H r (mkF (fbOf c ds) tmps (.inRegion ops π :: k)) w
  | [], tm, H, nx, φ, tmps, w, π, done, lds, κ, h, x, hD, hL => by
    obtain ⟨φ', tmps', w', π', hs, hle, hH', hlen, hk, hD', _, hz, hn⟩ := run_pend (fn := fbOf c ds) (k := k) (cs := csAt c.rc cs0) π φ tmps w x.hH hD hL
    have := hD'.last hn
    subst this
    refine FinOK.steps (hs.trans (.one (step_region_end (b := mkF (fbOf c ds) #[] []) (a := ⟨tmps', ds⟩)))) hle (fun k hk' q => ⟨hk k hk' q, rfl⟩) (hK c tm H nx r h _ _ _ _ ds cs0 (x.next hle hH' (hlen.trans x.hnx) (Nat.le_refl _) hz) ?_)
    exact fun t v hv => (hD'.tr t v hv).imp (fun ⟨p, hp, _⟩ => absurd hp List.not_mem_nil) id
  | (i, chk) :: rest, tm, H, nx, φ, tmps, w, π, done, lds, κ, h, x, hD, hL => by
    obtain ⟨o, ho, hni, hrdy, hpr, hpe⟩ := okPlan_cons hD.plan
    obtain ⟨o', ho', h⟩ := run_optK (show (Ev.optK ops[i]? (opD P pl ops chk c tm H nx (stepD P pl ops K rest)) .bad).run O = some r from h)
    rw [ho] at ho'
    cases ho'
    unfold opD at h
    obtain ⟨b, hb, hy, hn0⟩ := run_guard h
    have hsz := x.hsz
    -- given ahead
    have ahead : ∀ {φ' : Phi} {H' : T OB} {nx' : Nat} {κ' : Nat → Nat} {u : Value}, fore (anOf ops) i o = true → (∀ d, o.dst = some d → d < c.nt) → φ.le φ' →
        (∀ k, k < nx → φ[k]? = some none → φ'[k]? = some none ∧ hp H' k = hp H k) → (∀ p, p ≠ i → κ' p = κ p) → nx ≤ nx' → HR P W φ' (hp H') w → φ'.length = nx' →
        Prom P φ' H' (tmPut tm o.dst u) ops κ' lo nx' i o → (isAl o.op = true → nx ≤ κ' i) → (∀ k ob, hp H k = some ob → hp H' k = some ob) →
        (isLd o.op = true → wantedO (tmPut tm o.dst u) ops o = some true → rd P H' (tmPut tm o.dst u) o = some u) →
        (stepD P pl ops K rest c (tmPut tm o.dst u) H' nx').run O = some r → FinOK P W c.kd c.fn lo cs0 c.rc φ H r (mkF (fbOf c ds) tmps (.inRegion ops π :: k)) w := by
      intro φ' H' nx' κ' u hc hd hle hk hκ hn hH' hl hprom hfresh hext hself hq
      have hna : i ∉ antis ops := anOf_sub fun hm => by
        have hm' : (anOf ops).contains i = true := by simpa using hm
        unfold fore at hc
        rw [hm', Bool.not_true, Bool.and_false] at hc
        cases hc
      refine FinOK.steps (.refl _ _) hle (fun k hk' q => hk k (by have := x.hlo; omega) q) (stepD_ok hO hK rest _ H' nx' φ' tmps w π (i :: done) _ κ' hq (x.next hle hH' hl hn rfl)
        (hD.take ho hna hni hrdy (hpr hc) (fun p hp => ?_) (fun hl => ?_) hle hk hκ hn (fun d h => by rw [hsz]; exact hd d h) hprom hfresh) (hL.take hD.sa hD.ready ho hna hni hext hself))
      · split
        · exact List.mem_cons_of_mem _ hp
        · exact hp
      · rw [if_pos hl]; simp
    have hself : ∀ {d : Tmp}, o.dst = some d → d ∉ o.looksAt ops := fun hd => not_self hD.sa hD.ac ho hd
    have e1 : ∀ u, wantedO (tmPut tm o.dst u) ops o = wantedO tm ops o := fun u => stable_w (i := i) (p := i) fun d hd => hself hd
    have e2 : ∀ u H, rd P H (tmPut tm o.dst u) o = rd P H tm o := fun u H => stable_rd fun d hd => hself hd
    have e3 : ∀ u d, o.dst = some d → (tmPut tm o.dst u).get (bits d) = some u := fun u d hd => by rw [get_tmPut, if_pos hd]
    -- its turn has come
    have turn : fore (anOf ops) i o = false → ∃ φ1 tmps1 w1 l, Steps P (lone (mkF (fbOf c ds) tmps (.inRegion ops π :: k)) (csAt c.rc cs0) w) (lone (mkF (fbOf c ds) tmps1 (.inRegion ops (i :: l) :: k)) (csAt c.rc cs0) w1) ∧
        φ.le φ1 ∧ (∀ k, k < lo → φ[k]? = some none → φ1[k]? = some none ∧ hp H k = hp H k) ∧ Fx P W lo cs0 c φ1 H nx tmps1 ds w1 ∧ DrawC P φ1 H tm tmps1 ops done lds ((i, chk) :: rest) (i :: l) κ lo nx ∧
        Region.wanted o (yielded ops tmps1) = b ∧ EvR P φ1 tm (evalA tmps1) o.op.operands.toList := by
      intro hc
      obtain ⟨φ1, tmps1, w1, π', hs, hle, hH1, hlen, hk, hD1, _, hz, hn⟩ := run_pend (fn := fbOf c ds) (k := k) (cs := csAt c.rc cs0) π φ tmps w x.hH hD hL
      obtain ⟨l, rfl⟩ := hD1.head ho hc hn
      exact ⟨φ1, tmps1, w1, l, hs, hle, fun j hj q => ⟨hk j hj q, rfl⟩, x.next hle hH1 (hlen.trans x.hnx) (Nat.le_refl _) hz, hD1,
        wanted_of hD1.tr (fun p hp d hd => head_free hD1.lin hD1.own ho (looks_guard hp hd)) hb, EvR_of hH1.gl hD1.tr fun t ht => head_free hD1.lin hD1.own ho (looks_op ht)⟩
    -- behind what is no reader
    have fin : ∀ {φ1 φ2 : Phi} {H' : T OB} {nx' : Nat} {tmps1 : Array Value} {w1 w2 : World} {l : List Nat} {v v' : Value}, fore (anOf ops) i o = false → Fx P W lo cs0 c φ1 H nx tmps1 ds w1 → DrawC P φ1 H tm tmps1 ops done lds ((i, chk) :: rest) (i :: l) κ lo nx →
        Steps P (lone (mkF (fbOf c ds) tmps1 (.inRegion ops (i :: l) :: k)) (csAt c.rc cs0) w1) (lone (mkF (fbOf c ds) (putA tmps1 o.dst v') (.inRegion ops l :: k)) (csAt c.rc cs0) w2) →
        φ1.le φ2 → HR P W φ2 (hp H') w2 → φ2.length = nx' → nx ≤ nx' → Keep φ1 φ2 (hp H) (hp H') → VR φ2 v v' → ((∀ d, o.dst = some d → d < c.nt) ∧ (chkQ P H' (tmPut tm o.dst v) ops chk (stepD P pl ops K rest c (tmPut tm o.dst v) H' nx')).run O = some r) →
        FinOK P W c.kd c.fn lo cs0 c.rc φ1 H r (mkF (fbOf c ds) tmps1 (.inRegion ops (i :: l) :: k)) w1 := by
      intro φ1 φ2 H' nx' tmps1 w1 w2 l v v' hc x1 hD1 hs hle hH2 hl hn hkp hv hq
      obtain ⟨hd, hq⟩ := hq
      unfold chkQ at hq
      rcases run_bK hq with ⟨hchk, hq⟩ | ⟨_, hq⟩
      · obtain ⟨h6, h7⟩ := hD1.finish (H' := H') ho hc hle (fun j _ q => hkp j q) hn hv (fun d h => by rw [x1.hsz]; exact hd d h) hchk
        exact FinOK.steps hs hle (fun k _ q => hkp k q) (stepD_ok hO hK rest _ _ _ _ _ _ _ _ _ _ hq (x1.next hle hH2 hl hn (putA_size ..)) h6 h7)
      · exact (run_bad hq).elim
    cases b with
    | true =>
      have h := hy rfl
      unfold doD at h
      rcases run_bK h with ⟨hrd, h⟩ | ⟨hrd, h⟩
      · obtain ⟨v, hv, h⟩ := run_optK h
        obtain ⟨hd, hq⟩ := run_putB h
        cases hf : fore (anOf ops) i o with
        | false =>
          obtain rfl : chk = [] := (hpe hf).1 hrd
          obtain ⟨φ1, tmps1, w1, l, hs, hle1, hk1, x1, hD1, hw1, hE1⟩ := turn hf
          obtain ⟨v', hvr, hrun⟩ := rd_sound x1.hH hE1 hv
          exact FinOK.steps hs hle1 hk1 (fin hf x1 hD1 (.one (step_value ho hw1 hrun)) φ1.le_refl x1.hH x1.hnx (Nat.le_refl _) (Keep.refl _ _) hvr ⟨hd, by unfold chkQ; exact hq⟩)
        | true =>
        exact ahead (u := v) (κ' := κ) hf hd φ.le_refl (fun k _ q => ⟨q, rfl⟩) (fun _ _ => rfl) (Nat.le_refl _) x.hH x.hnx
          (.inr (.inl ⟨(e1 v).trans hb, hrd, v, e3 v, fun _ => (e2 v H).trans hv⟩)) (fun hal => by
            rw [isAl_rd hal] at hrd
            cases hrd) (fun _ _ h => h) (fun _ _ => (e2 v H).trans hv) hq
      · rcases run_bK h with ⟨hal, h⟩ | ⟨hal, h⟩
        · cases hf : fore (anOf ops) i o with
          | false =>
            obtain ⟨φ1, tmps1, w1, l, hs, hle1, hk1, x1, hD1, hw1, hE1⟩ := turn hf
            refine FinOK.steps hs hle1 hk1 ?_
            obtain ⟨v, H', nx', he, h⟩ := run_eff h
            obtain ⟨φ2, v', w2, hs2, h1, h2, h3, h4, h5⟩ := eff_run (fb := fbOf c ds) (k := k) (cs := csAt c.rc cs0) (rest := l) ho hw1 (ef_sound x1.hH x1.hnx hE1 he)
            have hn : nx ≤ nx' := by have := le_len h2 h5; rw [x1.hnx, h4] at this; exact this
            exact fin hf x1 hD1 (.one hs2) h2 h3 h4 hn h5 h1 (run_putK h)
          | true =>
          obtain ⟨v, H', nx', he2, h⟩ := run_eff h
          obtain ⟨e, l, mk, hz, rfl, rfl, rfl⟩ := ef_al hal he2
          obtain ⟨hd, hq⟩ := run_putK h
          unfold chkQ at hq
          have hq := (run_bK hq).elim (fun q => q.2) (fun q => (run_bad q.2).elim)
          have hnone : hp H nx = none := by
            cases hx : hp H nx with
            | none => rfl
            | some ob => have := x.hH.dom nx ob hx; have := x.hnx; omega
          have hnx := x.hnx
          subst hnx
          refine ahead (u := mk φ.length) (κ' := fun p => if p = i then φ.length else κ p) (φ' := φ ++ [none]) hf hd (le_push φ _) (fun j hj q => ⟨?_, ?_⟩) (fun p hp => if_neg hp) (Nat.le_succ _) ?_ (by simp)
            (.inr (.inr ⟨(e1 _).trans hb, hal, e, l, mk, alR_congr (fun y hy => eva_tmPut tm o.dst _ y fun d hd q => by
              subst q
              exact hself hd (looks_op hy)) hz, ?_, ?_, ?_, ?_, fun d hd => ?_⟩)) (fun _ => ?_) (fun j ob hj => ?_) (fun hl => ?_) hq
          · rw [List.getElem?_append_left hj]; exact q
          · rw [hp_set, upd_other _ (by omega)]
          · rw [hp_set]; exact x.hH.pend _
          · dsimp only; rw [if_pos rfl]; exact get_push φ _
          · dsimp only; rw [if_pos rfl, hp_set, upd_same]
          · dsimp only; rw [if_pos rfl]; exact x.hlo
          · dsimp only; rw [if_pos rfl]; omega
          · dsimp only; rw [if_pos rfl]; exact e3 _ d hd
          · rw [if_pos rfl]; exact Nat.le_refl _
          · rw [hp_set]
            by_cases hjn : j = φ.length
            · subst hjn; rw [hnone] at hj; cases hj
            · rw [upd_other _ hjn]; exact hj
          · rw [isAl_ld hal] at hl; cases hl
        · have hc : fore (anOf ops) i o = false := by unfold fore; rw [hrd, hal]; rfl
          obtain ⟨φ1, tmps1, w1, l, hs, hle1, hk1, x1, hD1, hw1, hE1⟩ := turn hc
          refine FinOK.steps hs hle1 hk1 ?_
          rcases run_bK h with ⟨hct, h⟩ | ⟨hct, h⟩
          · cases he : ef P H nx tm o with
            | bad => rw [he] at h; cases h
            | val v H' nx' => rw [he] at h; cases h
            | dfr g args => rw [he] at h; cases h
            | rcv => rw [he] at h; cases h
            | call g args =>
              rw [he] at h
              obtain ⟨args', h1, hok, h2⟩ := ef_call hE1 he
              obtain ⟨r1, h3, h4⟩ := run_ask (show (Q.ask (.call g args false none H nx) _).run O = some r from h)
              obtain ⟨φ2, w2, hle, hH2, hl2, hkp, hn1, ho1⟩ := call_ok hO h3 x1.hH x1.hnx h1 (C := mkF (fbOf c ds) tmps1 (.inRegion ops (i :: l) :: k)) rfl (csAt c.rc cs0)
              cases hr1 : r1.o with
              | ret v =>
                rw [hr1] at ho1
                simp only [hr1] at h4
                obtain ⟨v', hv', hs2⟩ := ho1
                rw [fin_mk ho] at hs2
                exact fin hc x1 hD1 (.head (step_enter ho hw1 (h2 w1)) hs2) hle hH2 hl2 hn1 hkp hv' (run_putB h4)
              | pan v =>
                rw [hr1] at ho1
                simp only [hr1] at h4
                obtain ⟨v', hv', hs2⟩ := ho1
                rcases run_bK h4 with ⟨hdf, h4⟩ | ⟨_, h4⟩
                · have hdf := List.isEmpty_iff.1 hdf
                  obtain ⟨fd, hfd, h4⟩ := run_optK (show (optK P.funcs[c.fn]? (fun _ => Q.ret ⟨.pan v, c.rc, r1.H, r1.nx⟩) .bad).run O = some r from h4)
                  have h4 := run_ret h4
                  subst h4
                  have hds := x1.hds
                  rw [hdf] at hds
                  cases hds
                  exact ⟨φ2, w2, _, .head (step_enter ho hw1 (h2 w1)) hs2, hle, hH2, hl2, fun k _ q => hkp k q, rfl, rfl, v', hv', rfl, rfl, fd, hfd⟩
                · exact (run_bad h4).elim
            | pan v =>
              rw [he] at h
              obtain ⟨v', h1, h2⟩ := ef_pan hE1 he
              rcases run_bK h with ⟨hdf, h4⟩ | ⟨_, h4⟩
              · have hdf := List.isEmpty_iff.1 hdf
                obtain ⟨fd, hfd, h4⟩ := run_optK (show (optK P.funcs[c.fn]? (fun _ => Q.ret ⟨.pan v, c.rc, H, nx⟩) .bad).run O = some r from h4)
                have h4 := run_ret h4
                subst h4
                have hds := x1.hds
                rw [hdf] at hds
                cases hds
                exact ⟨φ1, w1, _, .one (step_pan ho hw1 (h2 w1)), φ1.le_refl, x1.hH, x1.hnx, fun k _ q => ⟨q, rfl⟩, rfl, rfl, v', h1, rfl, rfl, fd, hfd⟩
              · exact (run_bad h4).elim
          · rcases run_bK h with ⟨hfr, h⟩ | ⟨hfr, h⟩
            · simp only [Bool.and_eq_true] at hfr
              obtain ⟨e, y, hop⟩ : ∃ e y, o.op = .box e y := by
                have hb := hfr.2
                unfold isBox at hb
                split at hb
                · rename_i e y hop; exact ⟨e, y, hop⟩
                · cases hb
              unfold frQ at h
              simp only [hop] at h
              obtain ⟨u, hu, h⟩ := run_optK (show (optK (eva P tm y) (fun v => natF (Nat.succ nx) fun n => putK c.nt tm o.dst (eptrV v) (fun tm => chkQ P H tm ops chk (stepD P pl ops K rest c tm H n)) .bad) .bad).run O = some r from h)
              rw [natF_eq] at h
              obtain ⟨φ2, v', w2, hs2, h1, h2, h3, h4, h5⟩ := box_ok x1.hH x1.hnx hop (fun v hv => hE1 y (by rw [hop]; simp [Op.operands]) v hv) hu
              exact fin hc x1 hD1 (.one (step_value ho hw1 hs2)) h2 h3 h4 (Nat.le_succ _) h5 h1 (run_putK h)
            · obtain ⟨v, H', nx', he, h⟩ := run_eff h
              obtain ⟨φ2, v', w2, hs2, h1, h2, h3, h4, h5⟩ := eff_run (fb := fbOf c ds) (k := k) (cs := csAt c.rc cs0) (rest := l) ho hw1 (ef_sound x1.hH x1.hnx hE1 he)
              have hn : nx ≤ nx' := by have := le_len h2 h5; rw [x1.hnx, h4] at this; exact this
              exact fin hc x1 hD1 (.one hs2) h2 h3 h4 hn h5 h1 (run_putK h)
    | false =>
      obtain ⟨hd, hq⟩ := run_putK (hn0 rfl)
      cases hc : fore (anOf ops) i o with
      | true =>
        unfold chkQ at hq
        rcases run_bK hq with ⟨hchk, hq⟩ | ⟨_, hq⟩
        · refine ahead (u := undef) (κ' := fun p => if p = i then nx else κ p) hc hd φ.le_refl (fun k _ q => ⟨q, rfl⟩) (fun p hp => if_neg hp) (Nat.le_refl _) x.hH x.hnx
            (.inl ⟨(e1 _).trans hb, e3 _⟩) (fun _ => ?_) (fun _ _ h => h) (fun _ hw => ?_) hq
          · rw [if_pos rfl]; exact Nat.le_refl _
          · rw [e1, hb] at hw; cases hw
        · exact (run_bad hq).elim
      | false =>
        obtain ⟨φ1, tmps1, w1, l, hs, hle1, hk1, x1, hD1, hw1, _⟩ := turn hc
        exact FinOK.steps hs hle1 hk1 (fin hc x1 hD1 (.one (step_not ho hw1)) φ1.le_refl x1.hH x1.hnx (Nat.le_refl _) (Keep.refl _ _) (.flat undef rfl) (run_putK (hn0 rfl)))
end
end Go.Ev
/- The evaluator is right: what a call comes to in it, the model's call comes to. -/
namespace Go.Ev
noncomputable section
set_option linter.unusedVariables false
open Go.RowKit (Below)
variable {P : Program} {W w w' w1 : World} {f fn : FuncId} {cs cs0 : List Frame} {r r1 : Rt} {fr fr' fr1 : Frame} {φ φ' φ1 : Phi} {H H' H1 : T OB} {nx nx' nx1 nt lo hi : Nat} {tm : T Value} {tmps : Array Value} {ops : Array Oper}
  {todo k : List Item} {c : Cg} {ds : List Deferred} {kd : Bool} {O : Cfg → Option Rt} {pl : Pol}
/-- A frame that runs has a step ahead of it. -/
theorem FinOK.peel {rc : Bool} {fr1 : Frame} (hm : fr.mode = .run) (hs : step P (lone fr (csAt rc cs0) w) = .next (lone fr1 (csAt rc cs0) w)) (h : FinOK P W kd fn lo cs0 rc φ H r fr w) : FinOK P W kd fn lo cs0 rc φ H r fr1 w := by
  obtain ⟨φ', w', frl, ⟨n, hn⟩, h2, h3, h4, h5, h6, h7, h8⟩ := h
  refine ⟨φ', w', frl, ?_, h2, h3, h4, h5, h6, h7, h8⟩
  cases n with
  | zero =>
    exfalso
    have hn : Stepped.next (lone fr (csAt rc cs0) w) = .next (lone frl (csAt r.rc cs0) w') := hn
    have e : fr.mode = frl.mode := by
      injection hn with hn
      simp only [lone] at hn
      simp_all
    rw [hm] at e
    cases hr : r.o with
    | ret v => rw [hr] at h8; obtain ⟨v', _, hg⟩ := h8; rw [hg.1] at e; cases e
    | pan v => rw [hr] at h8; obtain ⟨v', _, hg⟩ := h8; rw [hg.1] at e; cases e
  | succ n =>
    refine ⟨n, ?_⟩
    simp only [runN, hs] at hn
    exact hn
theorem pickT_get (t : Nat) (v : Value) : ∀ l : List Nat, (pickT tm l).get (bits t) = some v → tm.get (bits t) = some v
  | [], h => by rw [show pickT tm [] = .leaf from rfl, get_leaf] at h; cases h
  | s :: l, h => by
    have h : (optK (tm.get (bits s)) (fun v => setK (bits s) (pickT tm l) (some v) id) (pickT tm l)).get (bits t) = some v := h
    cases hs : tm.get (bits s) with
    | none => rw [hs] at h; exact pickT_get t v l h
    | some u =>
      have h2 : (set (pickT tm l) (bits s) (some u)).get (bits t) = some v := by
        rw [hs, optK_some, setK_set] at h
        exact h
      clear h
      rw [get_at] at h2
      split at h2
      · rename_i q; subst q; exact hs.trans h2
      · exact pickT_get t v l h2
theorem maskT_get {key : Nat} {t : Nat} {v : Value} (h : (maskT pl fn key tm).get (bits t) = some v) : tm.get (bits t) = some v := by
  unfold maskT at h
  split at h
  · exact h
  · cases hl : lookP fn key _ with
    | none => rw [hl] at h; exact h
    | some l => rw [hl] at h; exact pickT_get t v l h
theorem AtOK.mask {key : Nat} (h : AtOK P W c (maskT pl fn key tm) todo H nx r) : AtOK P W c tm todo H nx r := fun φ w lo tmps ds cs0 x htr =>
  h φ w lo tmps ds cs0 x fun t v hv => htr t v (maskT_get hv)
theorem jumpQ_ok (hO : OrcOK P W O) (todo : List Item) : KOK P W O (jumpQ pl todo) todo := fun c tm H nx r h =>
  AtOK.mask (show AtOK P W c (maskT pl c.fn (keyI todo) tm) todo H nx r from hO _ _ (run_jump h))
theorem badK_ok (todo : List Item) : KOK P W O badK todo := fun c tm H nx r h => (run_bad h).elim
def EOK (P : Program) (W : World) (O : Cfg → Option Rt) (E : List (Nat × Kt)) (k : List Item) : Prop := ∀ id, lookE id E = badK ∨ ∃ k', exitTo id k = some k' ∧ KOK P W O (lookE id E) k'
theorem EOK.skip {E : List (Nat × Kt)} {it : Item} (h : EOK P W O E k) (hit : ∀ id, exitTo id (it :: k) = exitTo id k) : EOK P W O E (it :: k) := fun j => (h j).imp (fun q => q) fun ⟨k', a, b⟩ => ⟨k', (hit j).trans a, b⟩
theorem EOK.block {E : List (Nat × Kt)} {K : Kt} {id : Nat} (h : EOK P W O E k) (hK : KOK P W O K k) : EOK P W O ((id, K) :: E) (.inBlock id :: k) := fun j => by
  have e : lookE j ((id, K) :: E) = bif Nat.beq id j then K else lookE j E := rfl
  have e2 : exitTo j (.inBlock id :: k) = if id == j then some k else exitTo j k := rfl
  rw [e, e2]
  cases hb : Nat.beq id j with
  | true =>
    have := beq_eq hb
    subst this
    exact .inr ⟨k, by simp, hK⟩
  | false =>
    have hne : (id == j) = false := by
      cases hq : id == j with
      | false => rfl
      | true => have : id = j := by simpa using hq
                subst this; rw [Nat.beq_refl] at hb; cases hb
    rw [hne]
    exact h j
theorem regQ_ok (hO : OrcOK P W O) {K : Kt} (hK : KOK P W O K k) (id : Nat) (ops : Array Oper) (draw : Bool) : KOK P W O (regQ P pl ops draw K) (.code (.region id ops draw) :: k) := fun c tm H nx r h => by
  unfold regQ at h
  rcases run_bK h with ⟨hd, h1⟩ | ⟨hd, h1⟩
  · rcases run_bK h1 with ⟨hm, h2⟩ | ⟨_, h2⟩
    · obtain ⟨p, hp, h3⟩ := run_optK h2
      subst hd
      intro φ w lo tmps ds cs0 x htr
      have hs := step_region_draw (P := P) (b := mkF (fbOf c ds) #[] []) (a := ⟨tmps, ds⟩) (k := k) (cs := csAt c.rc cs0) (w := w) (ops := ops) (id := id)
      rw [hm] at hs
      have x' : Fx P W lo cs0 c φ H nx tmps ds w.drew := ⟨x.hH.drew, x.hnx, x.hlo, x.hsz, x.hds, x.hrc⟩
      obtain ⟨h1, h2⟩ := DrawC.start (P := P) (φ := φ) (H := H) hp (w.tape w.drawn (.order (mkF (fbOf c ds) #[] []).fn id)) htr lo nx
      exact FinOK.steps (.one hs) φ.le_refl (fun _ _ q => ⟨q, rfl⟩) (stepD_ok hO hK p tm H nx φ tmps _ _ _ _ _ h3 x' h1 h2)
    · exact (run_bad h2).elim
  · subst hd
    exact (stepR_ok hO hK _ c tm H nx r h1).step1 fun ds tmps cs w => .one (step_region (b := mkF (fbOf c ds) #[] []) (a := ⟨tmps, ds⟩))
theorem stepC_ok (hO : OrcOK P W O) (cd : Code) : ∀ (k : List Item) (K : Kt) (E : List (Nat × Kt)), KOK P W O K k → EOK P W O E k → KOK P W O (stepC P pl cd k K E) (.code cd :: k) := by
  induction cd with
  | skip => exact fun k K E hK hE c tm H nx r h => (hK c tm H nx r h).step1 fun ds tmps cs w => .one (step_skip (b := mkF (fbOf c ds) #[] []) (a := ⟨tmps, ds⟩))
  | label l => exact fun k K E hK hE c tm H nx r h => (hK c tm H nx r h).step1 fun ds tmps cs w => .one (step_label (b := mkF (fbOf c ds) #[] []) (a := ⟨tmps, ds⟩))
  | ret => exact fun k K E hK hE => leaveQ_ok hO (.inr ⟨k, rfl⟩)
  | region id ops draw => exact fun k K E hK hE => regQ_ok hO hK id ops draw
  | seq a b iha ihb =>
    intro k K E hK hE c tm H nx r h
    refine AtOK.step1 (fun ds tmps cs w => .one (step_seq (b := mkF (fbOf c ds) #[] []) (a := ⟨tmps, ds⟩))) (iha (.code b :: k) _ E ?_ (hE.skip fun _ => rfl) c tm H nx r h)
    cases hq : cutQ pl a b with
    | true => exact jumpQ_ok hO _
    | false => exact ihb k K E hK hE
  | cond q a b iha ihb =>
    intro k K E hK hE c tm H nx r h φ w lo tmps ds cs0 x htr
    have h : (boolQ (eva P tm q) (stepC P pl a k K E c tm H nx) (stepC P pl b k K E c tm H nx)).run O = some r := h
    unfold boolQ at h
    split at h
    · rename_i t hx
      have he : Act.eval ⟨tmps, ds⟩ q = .bool t := by
        rw [evalA_eq]
        exact ((EvR_of x.hH.gl htr (l := [q]) noMask) q (by simp) _ hx).eq_of_flat rfl
      have hs := step_cond (P := P) (b := mkF (fbOf c ds) #[] []) (a := ⟨tmps, ds⟩) (k := k) (cs := csAt c.rc cs0) (w := w) (x := a) (y := b) he
      rcases run_bK h with ⟨rfl, h⟩ | ⟨rfl, h⟩
      · exact (iha k K E hK hE c tm H nx r h φ w lo tmps ds cs0 x htr).step1 (.one hs)
      · exact (ihb k K E hK hE c tm H nx r h φ w lo tmps ds cs0 x htr).step1 (.one hs)
    · exact (run_bad h).elim
  | block id body ih =>
    intro k K E hK hE c tm H nx r h
    refine AtOK.step1 (fun ds tmps cs w => .one (step_block (b := mkF (fbOf c ds) #[] []) (a := ⟨tmps, ds⟩))) (ih (.inBlock id :: k) K ((id, K) :: E) (fun c tm H nx r h => ?_) (hE.block hK) c tm H nx r h)
    exact (hK c tm H nx r h).step1 fun ds tmps cs w => .one (step_inBlock (b := mkF (fbOf c ds) #[] []) (a := ⟨tmps, ds⟩))
  | loop body ih =>
    intro k K E hK hE c tm H nx r h φ w lo tmps ds cs0 x htr
    have h1 := jumpQ_ok (pl := pl) hO (.inLoop body :: k) c tm H nx r h φ w lo tmps ds cs0 x htr
    exact (h1.peel rfl (step_inLoop (b := mkF (fbOf c ds) #[] []) (a := ⟨tmps, ds⟩))).step1 (.one (step_loop (b := mkF (fbOf c ds) #[] []) (a := ⟨tmps, ds⟩)))
  | scope body ih =>
    intro k K E hK hE c tm H nx r h
    refine AtOK.step1 (fun ds tmps cs w => .one (step_scope (b := mkF (fbOf c ds) #[] []) (a := ⟨tmps, ds⟩))) (ih (.inScope body :: k) K E (fun c tm H nx r h => ?_) (hE.skip fun _ => rfl) c tm H nx r h)
    exact (hK c tm H nx r h).step1 fun ds tmps cs w => .one (step_inScope (b := mkF (fbOf c ds) #[] []) (a := ⟨tmps, ds⟩))
  | exit id =>
    intro k K E hK hE c tm H nx r h
    have h : (lookE id E c tm H nx).run O = some r := h
    rcases hE id with q | ⟨k', hk', hK'⟩
    · rw [q] at h; exact (run_bad h).elim
    · exact (hK' c tm H nx r h).step1 fun ds tmps cs w => .one (step_exit (b := mkF (fbOf c ds) #[] []) (a := ⟨tmps, ds⟩) hk')
  | _ => exact fun k K E hK hE => badK_ok _
theorem evI_ok (hO : OrcOK P W O) : ∀ todo : List Item, KOK P W O (evI P pl todo).1 todo ∧ EOK P W O (evI P pl todo).2 todo
  | [] => ⟨leaveQ_ok hO (.inl rfl), fun id => .inl rfl⟩
  | it :: k => by
    obtain ⟨h1, h2⟩ := evI_ok hO k
    cases it with
    | code cd => exact ⟨stepC_ok hO cd k _ _ h1 h2, h2.skip fun _ => rfl⟩
    | inBlock id => exact ⟨fun c tm H nx r h => (h1 c tm H nx r h).step1 fun ds tmps cs w => .one (step_inBlock (b := mkF (fbOf c ds) #[] []) (a := ⟨tmps, ds⟩)), h2.block h1⟩
    | inScope b => exact ⟨fun c tm H nx r h => (h1 c tm H nx r h).step1 fun ds tmps cs w => .one (step_inScope (b := mkF (fbOf c ds) #[] []) (a := ⟨tmps, ds⟩)), h2.skip fun _ => rfl⟩
    | inLoop body => exact ⟨jumpQ_ok hO _, h2.skip fun _ => rfl⟩
    | _ => exact ⟨badK_ok _, fun id => .inl rfl⟩
theorem evAt_ok (hO : OrcOK P W O) (todo : List Item) : KOK P W O (evAt P pl todo) todo := by
  unfold evAt
  split
  · rename_i body k
    intro c tm H nx r h
    exact AtOK.step1 (fun ds tmps cs w => .one (step_inLoop (b := mkF (fbOf c ds) #[] []) (a := ⟨tmps, ds⟩))) (stepC_ok hO body _ _ _ (jumpQ_ok hO _) ((evI_ok hO k).2.skip fun _ => rfl) c tm H nx r h)
  · exact (evI_ok hO todo).1
theorem evT_ok (hO : OrcOK P W O) : ∀ q r, (evT P pl q).run O = some r → CfgOK P W q r
  | .at c tm todo H nx, r, h => evAt_ok hO todo c tm H nx r h
  | .call f args kd rp H nx, r, h => fun φ w args' cs0 hH hnx hl hrc => by
    obtain ⟨fd, hf, h⟩ := run_optK (show (optK P.funcs[f]? (fun fn => optK fn.body (fun cd => evF P pl f kd rp fn cd args H nx) .bad) .bad).run O = some r from h)
    obtain ⟨cd, hb, h⟩ := run_optK h
    unfold evF at h
    obtain ⟨hn, h⟩ := run_bif h
    have hn := ble_le hn
    obtain ⟨φ1, us, H1, nx1, h, hl1, hz⟩ := frzL_sound fd.params _ _ _ φ H nx hH hnx hl h
    rw [fromLK_fromL] at h
    have hlen := hl.len
    have hlen1 := hl1.len
    have e : Frame.enter P f args'.toArray (kindOf kd) = mkF (fbOf ⟨f, fd.ntmps, kd, [], rp, false⟩ []) (args'.toArray ++ Array.replicate (fd.ntmps - args'.toArray.size) undef) [.code cd] := by
      simp [Frame.enter, hf, hb, mkF, fbOf]
    rw [e]
    have hx : Fx P W nx cs0 ⟨f, fd.ntmps, kd, [], rp, false⟩ φ1 H1 nx1 (args'.toArray ++ Array.replicate (fd.ntmps - args'.toArray.size) undef) [] w := ⟨hz.2.1, hz.2.2.1, hz.2.2.2.2, by
      show (args'.toArray ++ Array.replicate (fd.ntmps - args'.toArray.size) undef).size = fd.ntmps
      simp only [Array.size_append, List.size_toArray, Array.size_replicate]
      omega, .nil, hrc.mono hz.1⟩
    refine hz.fin (stepC_ok hO cd [] _ [] (leaveQ_ok hO (.inl rfl)) (fun id => .inl rfl) _ _ _ _ r h φ1 w nx _ [] cs0 hx ?_)
    intro t v hv
    rw [get_fromL] at hv
    split at hv
    · rename_i ht
      rw [Nat.sub_zero] at hv
      obtain ⟨v', h1, h2⟩ := hl1.get hv
      refine .inr ⟨v', ?_, h2⟩
      have : t < args'.toArray.size := by simp; omega
      rw [Array.getElem?_append_left this]
      simpa using h1
    · rw [get_leaf] at hv; cases hv
/-! what is proved elsewhere -/
def ExtOK (P : Program) (W : World) (X : Ext) : Prop := ∀ f args v, X f args = some v → (∀ x ∈ args, flat x = true) ∧ flat v = true ∧
  ∀ w, Below W.heap.size W w → Calls P f args.toArray w fun e w' => e = .returned v ∧ Below w.heap.size w w'
theorem LR.eq_of_flat {l l' : List Value} (h : LR φ l l') (hf : ∀ x ∈ l, flat x = true) : l' = l := by
  refine List.ext_getElem? fun i => ?_
  by_cases hi : i < l.length
  · have h5 := List.getElem?_eq_getElem hi
    have h6 := List.getElem?_eq_getElem (h.len ▸ hi : i < l'.length)
    rw [h5, h6, (h.at_ i _ _ h5 h6).eq_of_flat (hf _ (List.getElem_mem hi))]
  · rw [List.getElem?_eq_none (by have := h.len; omega), List.getElem?_eq_none (by omega)]
theorem ext_ok {X : Ext} (hX : ExtOK P W X) {f : FuncId} {args : List Value} {v : Value} (h : X f args = some v) (rp : Option Value) (H : T OB) (nx : Nat) : CfgOK P W (.call f args false rp H nx) ⟨.ret v, false, H, nx⟩ := fun φ w args' cs0 hH hnx hl _ => by
  obtain ⟨h1, h2, h3⟩ := hX f args v h
  have := hl.eq_of_flat h1
  subst this
  obtain ⟨e, w', fr, ⟨he, hb⟩, hc, hfn, hlv⟩ := h3 w hH.below cs0
  subst he
  obtain ⟨a, b, hk, d⟩ := hlv
  exact ⟨φ, w', fr, hc, φ.le_refl, hH.grown hb, hnx, fun k _ q => ⟨q, rfl⟩, hk, hfn, v, .flat v h2, a, b, d⟩
theorem extQ_inv {X : Ext} {q : Cfg} {k : Option Rt} (h : extQ X q k = some r) : k = some r ∨ ∃ f args rp H nx v, q = .call f args false rp H nx ∧ X f args = some v ∧ r = ⟨.ret v, false, H, nx⟩ := by
  cases q with
  | «at» c tm todo H nx => exact .inl h
  | call f args kd rp H nx =>
    cases kd with
    | true => exact .inl h
    | false =>
      have h : @Option.rec Value (fun _ => Option Rt) k (fun v => some ⟨.ret v, false, H, nx⟩) (X f args) = some r := h
      cases hx : X f args with
      | none => rw [hx] at h; exact .inl h
      | some v => rw [hx] at h; cases h; exact .inr ⟨f, args, rp, H, nx, v, rfl, hx, rfl⟩
theorem FD_succ (pl : Pol) (X : Ext) (n : Nat) (q : Cfg) : FD P pl X (n + 1) q = extQ X q ((evT P pl q).run (FD P pl X n)) := rfl
theorem FD_ok {X : Ext} (hX : ExtOK P W X) : ∀ n, OrcOK P W (FD P pl X n)
  | 0, q, r, h => by cases h
  | n + 1, q, r, h => by
    rw [FD_succ] at h
    rcases extQ_inv h with h | ⟨f, args, rp, H, nx, v, rfl, hx, rfl⟩
    · exact evT_ok (FD_ok hX n) q r h
    · exact ext_ok hX hx rp H nx
/-! as a function, without a number of rounds -/
theorem Q.run_mono {O O' : Cfg → Option Rt} (hO : ∀ q r, O q = some r → O' q = some r) : ∀ (q : Q) (r : Rt), q.run O = some r → q.run O' = some r := by
  intro q
  induction q with
  | ret a => exact fun r h => h
  | bad => exact fun r h => h
  | jump c => exact fun r h => hO c r h
  | ask c k ih =>
    intro r h
    obtain ⟨a, h1, h2⟩ := run_ask h
    show optK (O' c) (fun a => (k a).run O') none = some r
    rw [hO c a h1]
    exact ih a r h2
theorem extQ_mono {X : Ext} {q : Cfg} {k k' : Option Rt} (hk : ∀ r, k = some r → k' = some r) (h : extQ X q k = some r) : extQ X q k' = some r := by
  cases q with
  | «at» c tm todo H nx => exact hk r h
  | call f args kd rp H nx =>
    cases kd with
    | true => exact hk r h
    | false =>
      have h : @Option.rec Value (fun _ => Option Rt) k (fun v => some ⟨.ret v, false, H, nx⟩) (X f args) = some r := h
      show @Option.rec Value (fun _ => Option Rt) k' (fun v => some ⟨.ret v, false, H, nx⟩) (X f args) = some r
      cases hx : X f args with
      | none => rw [hx] at h; exact hk r h
      | some v => rw [hx] at h; exact h
theorem FD_mono1 {X : Ext} : ∀ (n : Nat) (q : Cfg) (r : Rt), FD P pl X n q = some r → FD P pl X (n + 1) q = some r
  | 0, q, r, h => by cases h
  | n + 1, q, r, h => by
    rw [FD_succ] at h ⊢
    exact extQ_mono (fun r h => Q.run_mono (FD_mono1 n) _ r h) h
theorem FD_mono {X : Ext} {n m : Nat} (hn : n ≤ m) {q : Cfg} {r : Rt} (h : FD P pl X n q = some r) : FD P pl X m q = some r := by
  induction hn with
  | refl => exact h
  | step _ ih => exact FD_mono1 _ q r ih
open Classical in
def F (P : Program) (pl : Pol) (X : Ext) (q : Cfg) : Option Rt := if h : ∃ r n, FD P pl X n q = some r then some h.choose else none
theorem F_iff {X : Ext} {q : Cfg} : F P pl X q = some r ↔ ∃ n, FD P pl X n q = some r := by
  unfold F
  constructor
  · intro h
    split at h
    · rename_i hx
      cases h
      exact hx.choose_spec
    · cases h
  · rintro ⟨n, hn⟩
    have hx : ∃ r n, FD P pl X n q = some r := ⟨r, n, hn⟩
    rw [dif_pos hx]
    obtain ⟨m, hm⟩ := hx.choose_spec
    have h1 := FD_mono (Nat.le_max_left n m) hn
    have h2 := FD_mono (Nat.le_max_right n m) hm
    rw [h1] at h2
    cases h2
    rfl
theorem Q.run_lim {X : Ext} : ∀ (q : Q) (r : Rt), q.run (F P pl X) = some r → ∃ n, q.run (FD P pl X n) = some r := by
  intro q
  induction q with
  | ret a => exact fun r h => ⟨0, h⟩
  | bad => exact fun r h => (run_bad h).elim
  | jump c => exact fun r h => F_iff.1 h
  | ask c k ih =>
    intro r h
    obtain ⟨a, h1, h2⟩ := run_ask h
    obtain ⟨n, hn⟩ := F_iff.1 h1
    obtain ⟨m, hm⟩ := ih a r h2
    refine ⟨max n m, ?_⟩
    show optK (FD P pl X (max n m) c) (fun a => (k a).run (FD P pl X (max n m))) none = some r
    rw [FD_mono (Nat.le_max_left n m) hn]
    exact Q.run_mono (fun q r h => FD_mono (Nat.le_max_right n m) h) _ r hm
/-- What comes of a call is what its code says. -/
theorem F_eq {X : Ext} (q : Cfg) : F P pl X q = extQ X q ((evT P pl q).run (F P pl X)) := by
  have up : ∀ r, F P pl X q = some r → extQ X q ((evT P pl q).run (F P pl X)) = some r := fun r h => by
    obtain ⟨n, hn⟩ := F_iff.1 h
    cases n with
    | zero => cases hn
    | succ n =>
      rw [FD_succ] at hn
      exact extQ_mono (fun r h => Q.run_mono (fun q r h => F_iff.2 ⟨n, h⟩) _ r h) hn
  have down : ∀ r, extQ X q ((evT P pl q).run (F P pl X)) = some r → F P pl X q = some r := fun r h => by
    rcases extQ_inv h with h | ⟨f, args, rp, H, nx, v, rfl, hx, rfl⟩
    · obtain ⟨n, hn⟩ := Q.run_lim _ r h
      cases hF : extQ X q ((evT P pl q).run (FD P pl X n)) with
      | none =>
        exfalso
        rw [hn] at hF
        cases q with
        | «at» c tm todo H nx => cases hF
        | call f args kd rp H nx =>
          cases kd with
          | true => cases hF
          | false =>
            have hF : @Option.rec Value (fun _ => Option Rt) (some r) (fun v => some ⟨.ret v, false, H, nx⟩) (X f args) = none := hF
            cases hx : X f args <;> rw [hx] at hF <;> cases hF
      | some r' =>
        have h1 : F P pl X q = some r' := F_iff.2 ⟨n + 1, by rw [FD_succ]; exact hF⟩
        have h2 := up r' h1
        have h3 : extQ X q ((evT P pl q).run (F P pl X)) = some r := by assumption
        rw [h2] at h3
        cases h3
        exact h1
    · refine F_iff.2 ⟨1, ?_⟩
      rw [FD_succ]
      show @Option.rec Value (fun _ => Option Rt) _ (fun v => some ⟨.ret v, false, H, nx⟩) (X f args) = _
      rw [hx]
  cases h : F P pl X q with
  | some r => exact (up r h).symm
  | none =>
    cases h2 : extQ X q ((evT P pl q).run (F P pl X)) with
    | none => rfl
    | some r => rw [down r h2] at h; cases h
theorem F_of {X : Ext} {n : Nat} {q : Cfg} (h : FD P pl X n q = some r) : F P pl X q = some r := F_iff.2 ⟨n, h⟩
/-- A call. -/
theorem calls_of_F {X : Ext} (hX : ExtOK P W X) {f : FuncId} {args args' : List Value} {v : Value} {H' : T OB} {nx' : Nat} (hH : HR P W φ (hp H) W) (hnx : φ.length = nx) (hl : LR φ args args') (hv : flat v = true)
    (h : F P pl X (.call f args false none H nx) = some ⟨.ret v, false, H', nx'⟩) : Calls P f args'.toArray W fun e w' => e = .returned v ∧ Below W.heap.size W w' := by
  intro cs
  obtain ⟨n, hn⟩ := F_iff.1 h
  obtain ⟨φ1, w1, frl, s1, hle, hH1, hl1, hk1, hkk, hff, v', hv', hg⟩ := FD_ok hX n _ _ hn φ W args' cs hH hnx hl (fun q => by cases q)
  have := hv'.eq_of_flat hv
  subst this
  obtain ⟨a, b, d⟩ := hg
  exact ⟨.returned v', w1, frl, ⟨rfl, hH1.below⟩, s1, hff, a, b, hkk, d⟩
end
end Go.Ev
/- How what a function's code says is told and used. -/
namespace Go.Ev
noncomputable section
set_option linter.unusedVariables false
/-- Temporaries, told one by one. -/
def tmOf (l : List (Nat × Value)) : T Value := @List.rec (Nat × Value) (fun _ => T Value) .leaf (fun p _ ih => setK (bits p.1) ih (some p.2) id) l
def cutsOf (cd : Code) : List Item → List (List Item) :=
  @Code.rec (fun _ => List Item → List (List Item)) (fun _ => []) (fun _ _ _ _ => []) (fun _ b iha ihb k => iha (.code b :: k) ++ ((.code b :: k) :: ihb k)) (fun _ _ _ iha ihb k => iha k ++ ihb k) (fun id _ ih k => ih (.inBlock id :: k))
    (fun b ih k => (.inLoop b :: k) :: ih (.inLoop b :: k)) (fun _ _ _ _ _ _ _ => []) (fun _ _ => []) (fun b ih k => ih (.inScope b :: k)) (fun _ _ => []) (fun _ _ => []) (fun _ => []) (fun _ _ => []) cd
def pickI (key : Nat) (l : List (List Item)) : List Item := @List.rec (List Item) (fun _ => List Item) [] (fun t _ ih => bif Nat.beq (keyI t) key then t else ih) l
def todoOf (P : Program) (f : FuncId) (key : Nat) : List Item := match P.funcs[f]? with
  | some fn => (match fn.body with
    | some cd => pickI key (cutsOf cd [])
    | none => [])
  | none => []
def frSt (P : Program) (H : T OB) (nx : Nat) (t : TypeId) (a : Option Value) (v : Value) (k : T OB → Nat → Q) : Q :=
  ptrQ a fun b off => cellsQ (H.get (bits b)) fun n _ _ => optK (szOf P t) (fun s =>
    bif Nat.beq off 0 && (Nat.beq n s && (Nat.beq v.cells.toList.length s && v.cells.toList.all oneCell)) then setK (bits b) H (some .dead) fun H => natF (Nat.succ nx) fun n => k H n else .bad) .bad
variable {P : Program} {pl : Pol} {X : Ext} {H H0 H1 : T OB} {nx nx0 nx1 : Nat} {v u : Value} {R : Value → T OB → Nat → Prop}
/-- What was there is as it was. -/
def Ag (nx0 : Nat) (H0 : T OB) (nx : Nat) (H : T OB) : Prop := nx0 ≤ nx ∧ ∀ k, k < nx0 → hp H k = hp H0 k
theorem Ag.refl (nx : Nat) (H : T OB) : Ag nx H nx H := ⟨Nat.le_refl _, fun _ _ => rfl⟩
theorem Ag.trans (h : Ag nx0 H0 nx H) (h' : Ag nx H nx1 H1) : Ag nx0 H0 nx1 H1 := ⟨Nat.le_trans h.1 h'.1, fun k hk => (h'.2 k (Nat.lt_of_lt_of_le hk h.1)).trans (h.2 k hk)⟩
theorem Ag.set (h : Ag nx0 H0 nx H) {b : Nat} (hb : nx0 ≤ b) (x : Option OB) : Ag nx0 H0 nx (Ev.set H (bits b) x) := ⟨h.1, fun k hk => by rw [hp_set, upd_other _ (by omega)]; exact h.2 k hk⟩
theorem Ag.succ (h : Ag nx0 H0 nx H) : Ag nx0 H0 (nx + 1) H := ⟨Nat.le_succ_of_le h.1, h.2⟩
/-- A tree of questions comes to a value such as is told; what was there stays. -/
def WqR (P : Program) (pl : Pol) (X : Ext) (q : Q) (nx0 : Nat) (H0 : T OB) (R : Value → T OB → Nat → Prop) : Prop := ∃ v H' nx', Ag nx0 H0 nx' H' ∧ R v H' nx' ∧ q.run (F P pl X) = some ⟨.ret v, false, H', nx'⟩
/-- A tree of questions comes to a value, and what was there stays. -/
abbrev Wq (P : Program) (pl : Pol) (X : Ext) (q : Q) (nx0 : Nat) (H0 : T OB) (v : Value) : Prop := WqR P pl X q nx0 H0 fun u _ _ => u = v
/-- A function that answers, and leaves what was there. -/
def Pure (P : Program) (pl : Pol) (X : Ext) (f : FuncId) (args : List Value) (v : Value) : Prop := ∀ H nx, ∃ H' nx', Ag nx H nx' H' ∧ F P pl X (.call f args false none H nx) = some ⟨.ret v, false, H', nx'⟩
theorem Pure.of {f : FuncId} {args : List Value} (hx : X f args = none) (h : ∀ H nx, Wq P pl X (evT P pl (.call f args false none H nx)) nx H v) : Pure P pl X f args v := fun H nx => by
  obtain ⟨_, H', nx', h1, rfl, h2⟩ := h H nx
  refine ⟨H', nx', h1, ?_⟩
  rw [F_eq]
  show @Option.rec Value (fun _ => Option Rt) _ (fun v => some ⟨.ret v, false, H, nx⟩) (X f args) = _
  rw [hx]
  exact h2
theorem Pure.ext {f : FuncId} {args : List Value} (hx : X f args = some v) : Pure P pl X f args v := fun H nx => ⟨H, nx, .refl _ _, by
  rw [F_eq]
  show @Option.rec Value (fun _ => Option Rt) _ (fun v => some ⟨.ret v, false, H, nx⟩) (X f args) = _
  rw [hx]⟩
theorem Wq.ret (h : Ag nx0 H0 nx H) : Wq P pl X (.ret ⟨.ret v, false, H, nx⟩) nx0 H0 v := ⟨v, H, nx, h, rfl, rfl⟩
theorem Wq.retR (h : Ag nx0 H0 nx H) (hR : R v H nx) : WqR P pl X (.ret ⟨.ret v, false, H, nx⟩) nx0 H0 R := ⟨v, H, nx, h, hR, rfl⟩
theorem Wq.jump {q : Cfg} (hq : ∀ k, extQ X q k = k) (h : WqR P pl X (evT P pl q) nx0 H0 R) : WqR P pl X (.jump q) nx0 H0 R := by
  obtain ⟨v, H', nx', h1, hR, h2⟩ := h
  refine ⟨v, H', nx', h1, hR, ?_⟩
  show F P pl X q = _
  rw [F_eq, hq]
  exact h2
theorem Wq.call {g : FuncId} {args : List Value} {k p : Value → T OB → Nat → Q} (hg : Pure P pl X g args u) (h : Ag nx0 H0 nx H) (hk : ∀ H' nx', Ag nx0 H0 nx' H' → WqR P pl X (k u H' nx') nx0 H0 R) :
    WqR P pl X (callQ (.call g args false none H nx) k p) nx0 H0 R := by
  obtain ⟨H1, nx1, h1, h2⟩ := hg H nx
  obtain ⟨v, H2, nx2, h3, hR, h4⟩ := hk H1 nx1 (h.trans h1)
  refine ⟨v, H2, nx2, h3, hR, ?_⟩
  show optK (F P pl X (.call g args false none H nx)) (fun r => (match r.o with | .ret v => k v r.H r.nx | .pan v => p v r.H r.nx : Q).run (F P pl X)) none = _
  rw [h2]
  exact h4
theorem effQ_alloc {e : TypeId} {l : List Value} {k : Value → T OB → Nat → Q} (hz : zeroC P e = some l) : effQ (efAlloc P H nx e) k = k (ptrAt nx) (Ev.set H (bits nx) (some (newOB l e))) (nx + 1) := by
  unfold efAlloc
  rw [hz, optK_some, newK_eq]
  rfl
/-- A variable that is written once. -/
theorem Wq.var {e t : TypeId} {l : List Value} {s : Nat} {x : Value} {k : T OB → Nat → Q} (hz : zeroC P e = some l) (hs : szOf P t = some s) (hl : l.length = s) (hx : x.cells.toList.length = s) (hone : x.cells.toList.all oneCell = true)
    (h : Ag nx0 H0 nx H) (hk : ∀ H' nx', Ag nx0 H0 nx' H' → WqR P pl X (k H' nx') nx0 H0 R) : WqR P pl X (effQ (efAlloc P H nx e) fun p H nx => frSt P H nx t (some p) x k) nx0 H0 R := by
  rw [effQ_alloc hz]
  have hg : (Ev.set H (bits nx) (some (newOB l e))).get (bits nx) = some (newOB l e) := by rw [get_at, if_pos rfl]
  have e1 : frSt P (Ev.set H (bits nx) (some (newOB l e))) (nx + 1) t (some (ptrAt nx)) x k = k (Ev.set (Ev.set H (bits nx) (some (newOB l e))) (bits nx) (some .dead)) (nx + 1 + 1) := by
    show cellsQ ((Ev.set H (bits nx) (some (newOB l e))).get (bits nx)) (fun n _ _ => optK (szOf P t) (fun s => bif Nat.beq 0 0 && (Nat.beq n s && (Nat.beq x.cells.toList.length s && x.cells.toList.all oneCell)) then
      setK (bits nx) (Ev.set H (bits nx) (some (newOB l e))) (some .dead) fun H => natF (Nat.succ (nx + 1)) fun n => k H n else .bad) .bad) = _
    rw [hg]
    show optK (szOf P t) (fun s => bif Nat.beq 0 0 && (Nat.beq l.length s && (Nat.beq x.cells.toList.length s && x.cells.toList.all oneCell)) then
      setK (bits nx) (Ev.set H (bits nx) (some (newOB l e))) (some .dead) fun H => natF (Nat.succ (nx + 1)) fun n => k H n else .bad) .bad = _
    rw [hs, optK_some, hl, hx, hone, setK_set, natF_eq]
    have e2 : Nat.beq s s = true := Nat.beq_refl s
    rw [e2]
    rfl
  rw [e1]
  exact hk _ _ ((((h.set h.1 _).succ).set h.1 _).succ)
theorem Wq.natF {k : Nat → Q} (hk : WqR P pl X (k (nx + 1)) nx0 H0 R) : WqR P pl X (Ev.natF (Nat.succ nx) k) nx0 H0 R := by rw [natF_eq]; exact hk
/-! reading -/
@[simp] theorem nonneg_cast (n : Nat) : nonneg (n : Int) = true := rfl
@[simp] theorem ldV_int (k : IntKind) (n : Int) : ldV (some false) (some 1) (.int k n) = some (.int k n) := rfl
@[simp] theorem ldV_str (s : ByteArray) : ldV (some false) (some 1) (.string s) = some (.string s) := rfl
@[simp] theorem ldV_bool (s : Bool) : ldV (some false) (some 1) (.bool s) = some (.bool s) := rfl
@[simp] theorem ldV_row (s : Nat) (es : List Value) : ldV (some false) (some 1) (rowV s es) = some (rowV s es) := rfl
@[simp] theorem ldV_ep (u : Value) : ldV (some false) (some 1) (eptrV u) = some (eptrV u) := rfl
@[simp] theorem ldV_nilp : ldV (some false) (some 1) (.pointer none) = some (.pointer none) := rfl
theorem rdIndex_row {t : TypeId} {s : Nat} {es : List Value} {i : Nat} {u : Value} (hs : elSz P t = some s) (hi : es[i]? = some u) (k : IntKind) : rdIndexAddr P t (some (rowV s es)) (some (.int k (i : Int))) = some (eptrV u) := by
  show intNK (i : Int) (rdIA P t (some (rowV s es))) none = _
  rw [intNK_ofNat]
  show idxV (elSz P t) s es i = _
  unfold idxV
  rw [hs, optK_some, Nat.beq_refl, hi]
  rfl
theorem rdLen_row {t ty : TypeId} (s : Nat) (es : List Value) (h : isSliceT P (some t) = true) : rdLen P #[t] ty (some [rowV s es]) = some (.int .i64 (es.length : Int)) := by
  show (bif isSliceT P (some t) then some (Value.int .i64 (.ofNat es.length)) else none) = _
  rw [h]; rfl
theorem pureRun_bind {α β : Type} (s : Sem α) (f : α → Sem β) : pureRun P (s >>= f) = (pureRun P s).bind fun a => pureRun P (f a) := by
  show pureRun P (s.bind f) = _
  induction s with
  | pure a => rfl
  | program k ih => exact ih P
  | mark m k ih => exact ih
  | _ => rfl
theorem pureRun_und {t : TypeId} {d : TypeDesc} (hu : P.underlying t = some d) : pureRun P (underlying t) = some d := by
  unfold underlying
  simp only [pureRun_bind, program, pureRun, Option.bind_some, hu]
  rfl
theorem rdLen_str {t ty : TypeId} (s : ByteArray) (hu : P.underlying t = some .string) : rdLen P #[t] ty (some [.string s]) = some (.int .i64 (s.size : Int)) := by
  show bltV P .len #[t] ty (some [.string s]) = _
  show (bif true && true then nextV (pureRun P (builtin .len #[t] ty #[] ⟨[.string s]⟩)) else none) = _
  have e : pureRun P (builtin .len #[t] ty #[] ⟨[.string s]⟩) = some (.value (.int .i64 (s.size : Int))) := by
    simp only [builtin, Builtin.len_]
    simp [pureRun_bind, pureRun_und hu, goInt]
    rfl
  rw [e]
  show (valF (.int .i64 (s.size : Int)) fun v => bif flat v then some v else none) = _
  rw [valF_eq]; rfl
@[simp] theorem oneCell_int (k : IntKind) (n : Int) : oneCell (.int k n) = true := rfl
@[simp] theorem oneCell_str (s : ByteArray) : oneCell (.string s) = true := rfl
@[simp] theorem oneCell_bool (b : Bool) : oneCell (.bool b) = true := rfl
@[simp] theorem oneCell_row (s : Nat) (es : List Value) : oneCell (rowV s es) = true := rfl
@[simp] theorem oneCell_ep (u : Value) : oneCell (eptrV u) = true := rfl
@[simp] theorem oneCell_nilp : oneCell (.pointer none) = true := rfl
/-! numbers -/
theorem fV_pure {w : Value} (h : flat w = true) : fV P (pure w) = some w := by
  show (valF w fun v => bif flat v then some v else none) = _
  rw [valF_eq, h]; rfl
theorem binV_int (op : BinOp) (t : TypeId) (k : IntKind) (a b : Int) : binV P op t (.int k a) (.int k b) = fV P (binOp op t (.int k a) (.int k b)) := by cases op <;> rfl
theorem rdBin_flat {op : BinOp} {t : TypeId} {q : Bool} {a b : Value} (ha : flat a = true) (hb : flat b = true) (hq : isNI a = false) (hg : isAggV a = false) : rdBin P H op t q (some a) (some b) = binV P op t a b := by
  have e : rdBin P H op t q (some a) (some b) = rdBin2 P H op t q a b := by cases a <;> first | rfl | cases hg
  rw [e]
  show (bif flat a && flat b then (bif q || !(isNI a && isNI b) then binV P op t a b else none) else rdPtr P H op t a b) = _
  rw [ha, hb, hq]
  cases q <;> rfl
theorem rdBin_int (op : BinOp) (t : TypeId) (q : Bool) (k : IntKind) (a b : Int) : rdBin P H op t q (some (.int k a)) (some (.int k b)) = fV P (binOp op t (.int k a) (.int k b)) := by
  rw [rdBin_flat rfl rfl rfl rfl, binV_int]
@[simp] theorem rdBin_add (t : TypeId) (q : Bool) (k : IntKind) (a b : Int) : rdBin P H .add t q (some (.int k a)) (some (.int k b)) = some (.int k (k.wrap (a + b))) := by
  rw [rdBin_int]
  have e : binOp .add t (.int k a) (.int k b) = pure (.int k (k.wrap (a + b))) := by simp [binOp, Op.intArith]
  rw [e]; exact fV_pure rfl
@[simp] theorem rdBin_sub (t : TypeId) (q : Bool) (k : IntKind) (a b : Int) : rdBin P H .sub t q (some (.int k a)) (some (.int k b)) = some (.int k (k.wrap (a - b))) := by
  rw [rdBin_int]
  have e : binOp .sub t (.int k a) (.int k b) = pure (.int k (k.wrap (a - b))) := by simp [binOp, Op.intArith]
  rw [e]; exact fV_pure rfl
@[simp] theorem rdBin_mul (t : TypeId) (q : Bool) (k : IntKind) (a b : Int) : rdBin P H .mul t q (some (.int k a)) (some (.int k b)) = some (.int k (k.wrap (a * b))) := by
  rw [rdBin_int]
  have e : binOp .mul t (.int k a) (.int k b) = pure (.int k (k.wrap (a * b))) := by simp [binOp, Op.intArith]
  rw [e]; exact fV_pure rfl
theorem rdBin_quo (t : TypeId) (q : Bool) (k : IntKind) (a b : Int) (hb : b ≠ 0) : rdBin P H .quo t q (some (.int k a)) (some (.int k b)) = some (.int k (k.wrap (a.tdiv b))) := by
  rw [rdBin_int]
  have e : binOp .quo t (.int k a) (.int k b) = pure (.int k (k.wrap (a.tdiv b))) := by simp [binOp, Op.intDiv, hb]
  rw [e]; exact fV_pure rfl
@[simp] theorem rdBin_lss (t : TypeId) (q : Bool) (k : IntKind) (a b : Int) : rdBin P H .lss t q (some (.int k a)) (some (.int k b)) = some (.bool (decide (a < b))) := by
  rw [rdBin_int]
  have e : binOp .lss t (.int k a) (.int k b) = pure (.bool (decide (a < b))) := by simp [binOp, Op.intCmp]
  rw [e]; exact fV_pure rfl
@[simp] theorem rdBin_leq (t : TypeId) (q : Bool) (k : IntKind) (a b : Int) : rdBin P H .leq t q (some (.int k a)) (some (.int k b)) = some (.bool (decide (a ≤ b))) := by
  rw [rdBin_int]
  have e : binOp .leq t (.int k a) (.int k b) = pure (.bool (decide (a ≤ b))) := by simp [binOp, Op.intCmp]
  rw [e]; exact fV_pure rfl
@[simp] theorem rdBin_gtr (t : TypeId) (q : Bool) (k : IntKind) (a b : Int) : rdBin P H .gtr t q (some (.int k a)) (some (.int k b)) = some (.bool (decide (b < a))) := by
  rw [rdBin_int]
  have e : binOp .gtr t (.int k a) (.int k b) = pure (.bool (decide (b < a))) := by simp [binOp, Op.intCmp]
  rw [e]; exact fV_pure rfl
@[simp] theorem rdBin_geq (t : TypeId) (q : Bool) (k : IntKind) (a b : Int) : rdBin P H .geq t q (some (.int k a)) (some (.int k b)) = some (.bool (decide (b ≤ a))) := by
  rw [rdBin_int]
  have e : binOp .geq t (.int k a) (.int k b) = pure (.bool (decide (b ≤ a))) := by simp [binOp, Op.intCmp]
  rw [e]; exact fV_pure rfl
@[simp] theorem rdBin_eql (t : TypeId) (q : Bool) (k : IntKind) (a b : Int) : rdBin P H .eql t q (some (.int k a)) (some (.int k b)) = some (.bool (decide (a = b))) := by
  rw [rdBin_int]
  have e : binOp .eql t (.int k a) (.int k b) = pure (.bool (decide (a = b))) := by simp [binOp, Op.intCmp]; rfl
  rw [e]; exact fV_pure rfl
@[simp] theorem rdBin_neq (t : TypeId) (q : Bool) (k : IntKind) (a b : Int) : rdBin P H .neq t q (some (.int k a)) (some (.int k b)) = some (.bool (!decide (a = b))) := by
  rw [rdBin_int]
  have e : binOp .neq t (.int k a) (.int k b) = pure (.bool (!decide (a = b))) := by simp [binOp, Op.intCmp]; rfl
  rw [e]; exact fV_pure rfl
theorem beqL (a b : ByteArray) : (a.toList == b.toList) = decide (a = b) := by
  rw [ByteArray.toList_eq, ByteArray.toList_eq]
  obtain ⟨⟨x⟩⟩ := a
  obtain ⟨⟨y⟩⟩ := b
  rw [Bool.eq_iff_iff]
  simp
theorem rdBuild_of {t : TypeId} {z l : List Value} {vs : List (Nat × Value)} (hz : zeroC P t = some z) (hb : P.built t vs = some ⟨l⟩) : rdBuild P t (some vs) = some (.agg ⟨l⟩) := by
  show optK (zeroC P t) (fun _ => optK (P.built t vs) (fun cs => valF (.agg cs) some) none) none = _
  rw [hz, optK_some, hb, optK_some, valF_eq]
@[simp] theorem rdBin_seql (t : TypeId) (q : Bool) (a b : ByteArray) : rdBin P H .eql t q (some (.string a)) (some (.string b)) = some (.bool (decide (a = b))) := by
  rw [rdBin_flat rfl rfl rfl rfl]
  have e : binV P .eql t (.string a) (.string b) = fV P (binOp .eql t (.string a) (.string b)) := rfl
  rw [e, binOp_string_eql, beqL]; exact fV_pure rfl
@[simp] theorem rdBin_sneq (t : TypeId) (q : Bool) (a b : ByteArray) : rdBin P H .neq t q (some (.string a)) (some (.string b)) = some (.bool (!decide (a = b))) := by
  rw [rdBin_flat rfl rfl rfl rfl]
  have e : binV P .neq t (.string a) (.string b) = fV P (binOp .neq t (.string a) (.string b)) := rfl
  rw [e, binOp_string_neq, beqL]; exact fV_pure rfl
@[simp] theorem unV_not (b : Bool) : unV P .not (some (.bool b)) = some (.bool (!b)) := by cases b <;> rfl
@[simp] theorem bvK_bool {β : Type} (b : Bool) (k : Bool → β) (bad : β) : bvK (.bool b) k bad = k b := rfl
theorem wrap_id {n : Int} (h : -9223372036854775808 ≤ n ∧ n < 9223372036854775808) : IntKind.i64.wrap n = n := by
  unfold IntKind.wrap
  have : IntKind.i64.bits = 64 := rfl
  have : IntKind.i64.signed = true := rfl
  simp only [*, Bool.true_and]
  split
  · rename_i h'
    simp only [decide_eq_true_eq] at h'
    omega
  · rename_i h'
    simp only [decide_eq_true_eq] at h'
    omega
/-! steps of a proof: what was there stays is carried along -/
theorem Wq.bK {b : Bool} {x y : Q} (h : b = true → WqR P pl X x nx0 H0 R) (h' : b = false → WqR P pl X y nx0 H0 R) : WqR P pl X (Ev.bK b x y) nx0 H0 R := by
  cases b
  · exact h' rfl
  · exact h rfl
theorem Wq.ite {p : Prop} [Decidable p] {x y : Q} (h : p → WqR P pl X x nx0 H0 R) (h' : ¬p → WqR P pl X y nx0 H0 R) : WqR P pl X (Ev.bK (decide p) x y) nx0 H0 R :=
  Wq.bK (fun q => h (of_decide_eq_true q)) (fun q => h' (of_decide_eq_false q))
theorem Wq.natF' {k : Nat → Q} (h : Ag nx0 H0 nx H) (hk : Ag nx0 H0 (nx + 1) H → WqR P pl X (k (nx + 1)) nx0 H0 R) : WqR P pl X (Ev.natF (Nat.succ nx) k) nx0 H0 R := Wq.natF (hk h.succ)
/-! rounds -/
/-- A loop that goes up to 'n', with something that it carries. -/
theorem Wq.up {σ : Type} (n : Nat) (q : Nat → σ → T OB → Nat → Q) (r : Nat → σ → Value) (hend : ∀ s H1 nx1, Ag nx0 H0 nx1 H1 → Wq P pl X (q n s H1 nx1) nx0 H0 (r n s))
    (hstep : ∀ i s H1 nx1, i < n → (∀ s H2 nx2, Ag nx0 H0 nx2 H2 → Wq P pl X (q (i + 1) s H2 nx2) nx0 H0 (r (i + 1) s)) → Ag nx0 H0 nx1 H1 → Wq P pl X (q i s H1 nx1) nx0 H0 (r i s)) :
    ∀ (i : Nat) (s : σ) (H1 : T OB) (nx1 : Nat), i ≤ n → Ag nx0 H0 nx1 H1 → Wq P pl X (q i s H1 nx1) nx0 H0 (r i s) := by
  have h : ∀ (d i : Nat), n - i = d → i ≤ n → ∀ (s : σ) (H1 : T OB) (nx1 : Nat), Ag nx0 H0 nx1 H1 → Wq P pl X (q i s H1 nx1) nx0 H0 (r i s) := by
    intro d
    induction d with
    | zero => intro i hd hi s H1 nx1 hA; obtain rfl : i = n := by omega
              exact hend s H1 nx1 hA
    | succ d ih => intro i hd hi s H1 nx1 hA; exact hstep i s H1 nx1 (by omega) (fun s H2 nx2 h => ih (i + 1) (by omega) (by omega) s H2 nx2 h) hA
  exact fun i s H1 nx1 hi hA => h (n - i) i rfl hi s H1 nx1 hA
/-! variables in memory -/
/-- A block holds these cells. -/
def IsB (H : T OB) (b : Nat) (l : List Value) (e : TypeId) : Prop := ∃ tr, H.get (bits b) = some (.cells l.length tr e) ∧ ∀ i, i < l.length → tr.get (bits i) = l[i]?
theorem IsB.new (l : List Value) (e : TypeId) : IsB (Ev.set H (bits nx) (some (newOB l e))) nx l e := ⟨_, by rw [get_at, if_pos rfl]; rfl, fun i hi => get_newOB l i hi⟩
theorem IsB.other {b : Nat} {l : List Value} {e : TypeId} (h : IsB H b l e) {c : Nat} (hc : b ≠ c) (x : Option OB) : IsB (Ev.set H (bits c) x) b l e := by
  obtain ⟨tr, h1, h2⟩ := h
  exact ⟨tr, by rw [get_at, if_neg hc]; exact h1, h2⟩
theorem IsB.ag {b : Nat} {l : List Value} {e : TypeId} (h : IsB H b l e) (hA : Ag nx H nx1 H1) (hb : b < nx) : IsB H1 b l e := by
  obtain ⟨tr, h1, h2⟩ := h
  exact ⟨tr, (show hp H1 b = _ from (hA.2 b hb).trans h1), h2⟩
/-- Cells over others. -/
def overL (l u : List Value) (off : Nat) : List Value := l.take off ++ u ++ l.drop (off + u.length)
theorem toL_of {tr : T Value} {l : List Value} (h : ∀ i, i < l.length → tr.get (bits i) = l[i]?) : ∀ (n off : Nat), off + n ≤ l.length → toL tr n off = some ((l.drop off).take n)
  | 0, off, _ => by rw [toL_zero]; simp
  | n + 1, off, hn => by
    have hlt : off < l.length := by omega
    rw [toL_succ, h off hlt, List.getElem?_eq_getElem hlt, toL_of h n (off + 1) (by omega), List.drop_eq_getElem_cons hlt, List.take_succ_cons]
theorem rdLoad_agg {b off s : Nat} {l : List Value} {e t : TypeId} (h : IsB H b l e) (ha : aggQ P t = some true) (hs : szOf P t = some s) (hn : off + s ≤ l.length) :
    rdLoad P H t (some (.pointer (some ⟨b, off, none⟩))) = some (.agg ⟨(l.drop off).take s⟩) := by
  obtain ⟨tr, h1, h2⟩ := h
  show loadO P H t b off = _
  unfold loadO
  rw [h1]
  show loadB P l.length tr t off = _
  unfold loadB
  rw [ha, optK_some]
  show loadA P l.length tr t off = _
  unfold loadA
  rw [hs, optK_some, toL_of h2 s off hn, Nat.ble_eq_true_of_le hn]
  rfl
theorem rdLoad_cell {b off : Nat} {l : List Value} {e t : TypeId} {u : Value} (h : IsB H b l e) (ha : aggQ P t = some false) (hu : l[off]? = some u) : rdLoad P H t (some (.pointer (some ⟨b, off, none⟩))) = some u := by
  obtain ⟨tr, h1, h2⟩ := h
  have hlt := (List.getElem?_eq_some_iff.1 hu).1
  show loadO P H t b off = _
  unfold loadO
  rw [h1]
  show loadB P l.length tr t off = _
  unfold loadB
  rw [ha, optK_some]
  show load1 l.length tr off = _
  unfold load1
  have e1 : Nat.blt off l.length = true := Nat.ble_eq_true_of_le hlt
  rw [e1, h2 off hlt, hu]
  rfl
theorem Wq.alloc {e : TypeId} {l : List Value} {k : Value → T OB → Nat → Q} (hz : zeroC P e = some l) (h : Ag nx0 H0 nx H)
    (hk : ∀ H', IsB H' nx l e → (∀ b l e, b < nx → IsB H b l e → IsB H' b l e) → Ag nx0 H0 (nx + 1) H' → WqR P pl X (k (.pointer (some ⟨nx, 0, none⟩)) H' (nx + 1)) nx0 H0 R) : WqR P pl X (effQ (efAlloc P H nx e) k) nx0 H0 R := by
  rw [effQ_alloc hz]
  exact hk _ (IsB.new l e) (fun b l e hb h => h.other (by omega) _) (h.succ.set h.1 _)
theorem Wq.box {e : TypeId} {u : Value} {k : Value → T OB → Nat → Q} (h : Ag nx0 H0 nx H)
    (hk : ∀ H', IsB H' nx u.cells.toList e → (∀ b l e, b < nx → IsB H b l e → IsB H' b l e) → Ag nx0 H0 (nx + 1) H' → WqR P pl X (k (.pointer (some ⟨nx, 0, none⟩)) H' (nx + 1)) nx0 H0 R) : WqR P pl X (effQ (efBox H nx e (some u)) k) nx0 H0 R := by
  have e1 : effQ (efBox H nx e (some u)) k = k (ptrAt nx) (Ev.set H (bits nx) (some (newOB u.cells.toList e))) (nx + 1) := by
    show effQ (newK H nx e u.cells.toList fun H n => .val (ptrAt nx) H n) k = _
    rw [newK_eq]; rfl
  rw [e1]
  exact hk _ (IsB.new _ e) (fun b l e hb h => h.other (by omega) _) (h.succ.set h.1 _)
theorem overL_get {l u : List Value} {off i : Nat} (hn : off + u.length ≤ l.length) : (overL l u off)[i]? = if off ≤ i ∧ i < off + u.length then u[i - off]? else l[i]? := by
  unfold overL
  have h1 : (l.take off).length = off := by simp; omega
  by_cases h : i < off
  · rw [if_neg (by omega), List.append_assoc, List.getElem?_append_left (by omega), List.getElem?_take, if_pos h]
  · by_cases h2 : i < off + u.length
    · rw [if_pos (by omega), List.append_assoc, List.getElem?_append_right (by omega), List.getElem?_append_left (by omega), h1]
    · rw [if_neg (by omega), List.getElem?_append_right (by simp; omega), List.getElem?_drop]
      congr 1
      simp
      omega
theorem overL_length {l u : List Value} {off : Nat} (hn : off + u.length ≤ l.length) : (overL l u off).length = l.length := by
  unfold overL; simp; omega
theorem Wq.store {b off s : Nat} {l : List Value} {e t : TypeId} {u : Value} {k : Value → T OB → Nat → Q} (hb : IsB H b l e) (hs : szOf P t = some s) (hn : off + s ≤ l.length) (hl : u.cells.toList.length = s) (hone : u.cells.toList.all oneCell = true)
    (h : Ag nx0 H0 nx H) (hbn : nx0 ≤ b) (hk : ∀ H', IsB H' b (overL l u.cells.toList off) e → (∀ c l e, c ≠ b → IsB H c l e → IsB H' c l e) → Ag nx0 H0 nx H' → WqR P pl X (k undef H' nx) nx0 H0 R) :
    WqR P pl X (effQ (efStore P H nx t (some (.pointer (some ⟨b, off, none⟩))) (some u)) k) nx0 H0 R := by
  obtain ⟨tr, h1, h2⟩ := hb
  have e1 : efStore P H nx t (some (.pointer (some ⟨b, off, none⟩))) (some u) = .val undef (Ev.set H (bits b) (some (.cells l.length (fromL u.cells.toList off tr) e))) nx := by
    show cellsK (H.get (bits b)) (fun n tr e => optK (szOf P t) (fun s => bif Nat.beq u.cells.toList.length s && Nat.ble (off + s) n && u.cells.toList.all oneCell then
      fromLK u.cells.toList off tr fun tr => setK (bits b) H (some (.cells n tr e)) fun H => Eff.val undef H nx else .bad) .bad) .bad = _
    rw [h1]
    show optK (szOf P t) (fun s => bif Nat.beq u.cells.toList.length s && Nat.ble (off + s) l.length && u.cells.toList.all oneCell then
      fromLK u.cells.toList off tr fun tr => setK (bits b) H (some (.cells l.length tr e)) fun H => Eff.val undef H nx else .bad) .bad = _
    rw [hs, optK_some, hl, Nat.beq_refl, Nat.ble_eq_true_of_le hn, hone, fromLK_fromL, setK_set]
    rfl
  rw [e1]
  have hn' : off + u.cells.toList.length ≤ l.length := by rw [hl]; exact hn
  refine hk _ ⟨fromL u.cells.toList off tr, ?_, fun i hi => ?_⟩ (fun c l e hc h => h.other hc _) (h.set hbn _)
  · rw [get_at, if_pos rfl, overL_length hn']
  · rw [overL_length hn'] at hi
    rw [get_fromL, overL_get hn']
    split
    · rfl
    · exact h2 i hi
end
end Go.Ev
/- What is held by value, and where a call is cut. -/
namespace Go.Proofs.YthjhonhhbddhkaaGreatDoor
open Go.Ev Go.RowKit
noncomputable section
set_option linter.unusedVariables false
noncomputable abbrev P : Program := Tryz.prog
noncomputable def pl : Pol := ⟨[(157, [0]), (116, [0]), (142, [0]), (138, [0]), (82, [0]), (173, [0]), (79, [0])], [(76, [1]), (14, [0, 1]), (29, [0]), (25, [0]), (30, [0]), (31, [0]), (115, [0]), (83, [0]), (43, [0])], [(25, [2, 3]), (27, [5]), (29, [2, 3]), (30, [2, 3]), (31, [2, 3]), (33, [1]), (36, [1, 3]), (41, [7]), (42, [6]), (43, [6]), (44, [1, 5]), (45, [1, 5]), (49, [1]), (50, [1, 5, 7, 9, 11, 13]), (64, [1]), (72, [2]), (73, [2]), (74, [2]), (75, [3, 5, 7]), (80, [1]), (81, [1]), (84, [1]), (86, [1]), (87, [1]), (90, [1]), (93, [1]), (94, [1]), (95, [1]), (96, [1, 5]), (97, [1, 5, 7]), (98, [1, 5]), (126, [2]), (128, [6]), (131, [3, 5]), (132, [3]), (133, [3]), (134, [3, 7]), (135, [3, 5]), (137, [1]), (140, [1]), (141, [1]), (143, [1]), (162, [5]), (163, [3, 5]), (164, [8]), (165, [7]), (166, [3, 5, 6]), (168, [3]), (170, [3]), (171, [3, 5, 7]), (172, [1]), (183, [1]), (185, [3])], [((23, 9), [0, 3, 4]), ((27, 9), [3, 6, 7, 8]), ((21, 7), [0, 3]), ((20, 13), [0, 4, 5]), ((20, 20), [0, 4, 5]), ((49, 12), [1, 3, 4]), ((49, 58), [3]), ((49, 27), [1, 3, 5]), ((49, 44), [3, 4, 75]), ((49, 35), [1, 3, 5, 6]), ((49, 47), [3, 4, 7]), ((49, 53), [3, 4, 7, 8]), ((50, 70), [3]), ((50, 17), [3, 28, 29, 30]), ((50, 39), [3, 56, 57, 58]), ((50, 59), [3, 79, 80, 81]), ((50, 25), [3, 28, 29, 30, 40, 41, 42]), ((50, 45), [3, 56, 57, 58, 63, 64, 65]), ((45, 29), [1, 3, 4]), ((45, 47), [1, 3, 6]), ((45, 72), []), ((45, 36), [1, 3, 4, 89]), ((45, 57), [1, 3, 7]), ((42, 9), [4, 9, 10, 11]), ((41, 9), [0, 1, 5, 6]), ((41, 21), [0, 1, 5, 6, 7, 8]), ((41, 29), [0, 1, 5, 6, 7, 8, 9]), ((41, 37), [0, 1, 5, 6, 7, 10]), ((41, 47), [0, 1, 5, 6, 7, 11]), ((44, 17), [1, 3, 4]), ((44, 45), [1, 9, 10]), ((44, 66), [1]), ((44, 29), [1, 3, 4, 5, 6, 7, 8]), ((44, 60), [1, 9, 11]), ((43, 9), [4, 7, 8, 9]), ((43, 34), [4, 7, 8, 9]), ((43, 22), [4, 6, 7, 8, 9]), ((95, 9), [1, 3, 4]), ((94, 9), [1, 3, 4]), ((94, 17), [1, 3, 5]), ((93, 9), [1, 3, 4]), ((98, 9), [3, 7, 8, 9]), ((97, 9), [1, 3, 12, 13, 14]), ((97, 19), [3, 24, 25, 26]), ((96, 9), [3, 7, 8, 9]), ((89, 7), [0, 3]), ((87, 7), [1, 3]), ((87, 16), [1, 36]), ((87, 62), [1, 4, 41, 91]), ((87, 81), [1, 4, 5]), ((87, 86), [1, 4, 5, 152]), ((86, 6), [1, 16]), ((14, 11), [0, 1, 5]), ((14, 18), [0, 1, 5, 6, 7, 75]), ((14, 23), [0, 1, 5, 6, 7, 8]), ((14, 30), [0, 1, 5, 6, 7, 8, 113]), ((75, 24), [0, 3]), ((75, 27), [0, 48, 49, 50]), ((75, 39), [0, 5, 48, 49, 50, 76, 77, 78]), ((74, 9), [1, 2, 5, 6]), ((73, 9), [1, 2, 5, 6]), ((73, 17), [1, 2, 5, 7]), ((72, 9), [1, 2, 5, 6]), ((83, 9), [0, 1, 5, 6]), ((83, 16), [0, 1, 5, 6]), ((82, 9), [0, 3, 4]), ((81, 67), [1, 3, 4, 5]), ((81, 78), [1]), ((80, 40), [1]), ((79, 9), [0, 3, 4]), ((79, 18), [0, 3, 4, 5, 20]), ((79, 30), [0, 3, 4, 5, 43]), ((78, 10), [0, 3]), ((78, 15), [0, 3, 4, 5]), ((78, 28), [4, 5]), ((33, 26), [1, 66]), ((33, 46), [1, 90]), ((33, 31), [1, 3]), ((33, 48), [1, 110]), ((33, 36), [1, 3, 86]), ((33, 53), [1, 4]), ((36, 10), [1, 28]), ((143, 7), [1, 3]), ((115, 7), [0, 1, 5]), ((25, 6), [2, 3, 49]), ((25, 11), [2, 3, 5]), ((141, 42), [2, 3]), ((141, 20), [1, 2, 3, 10, 17]), ((141, 28), [1, 2, 3, 10, 25]), ((141, 36), [1, 2, 3, 10, 31]), ((32, 11), [0, 1, 5]), ((31, 6), [2, 3, 29]), ((31, 11), [2, 3, 5]), ((31, 21), [2, 3, 6]), ((133, 6), [0, 3, 12]), ((135, 11), [0, 18, 19, 20]), ((134, 10), [0, 3]), ((134, 13), [0, 3, 21, 22, 23]), ((134, 20), [0, 3, 5, 21, 22, 23]), ((134, 28), [0, 3]), ((134, 35), [0, 59, 60, 61]), ((131, 36), [0, 3, 7, 51]), ((131, 40), [0, 3]), ((131, 83), [0, 163, 164, 165]), ((130, 14), [0]), ((130, 20), [0, 3]), ((130, 26), [0, 3]), ((130, 38), [0, 3]), ((130, 44), [0, 3]), ((130, 28), [0, 3, 72]), ((128, 8), [3, 4, 5, 6, 72]), ((126, 9), [1, 2, 5, 6]), ((137, 6), [1, 11]), ((139, 9), [0, 1, 5, 6]), ((118, 9), [0, 3, 4]), ((118, 18), [0, 3, 4, 5, 20]), ((118, 30), [0, 3, 4, 5, 43]), ((138, 9), [0, 3, 4]), ((58, 6), [0, 3]), ((54, 7), [1, 7, 8, 9]), ((53, 11), [0, 1, 5]), ((53, 16), [0, 1, 5, 54]), ((171, 18), [0, 3, 9, 26]), ((171, 20), [0, 3]), ((171, 40), [0, 3]), ((171, 23), [0, 3, 52, 53, 54]), ((171, 43), [0, 3, 85, 86, 87]), ((171, 30), [0, 3, 5, 52, 53, 54]), ((171, 50), [0, 3, 7, 85, 86, 87]), ((171, 58), [0, 3]), ((165, 5), [0, 2, 8, 9, 10]), ((165, 12), [0, 2, 7, 8, 9, 10]), ((170, 46), [0, 3, 77]), ((170, 56), [0, 3]), ((153, 7), [1, 7, 8, 9]), ((169, 6), [0, 2, 10]), ((167, 7), [0, 5, 6]), ((166, 13), [0, 3, 19, 20, 21]), ((166, 18), [0, 3, 5, 19, 20, 21]), ((166, 38), [0]), ((162, 5), [0, 6, 7, 8]), ((162, 12), [0, 5, 6, 7, 8]), ((163, 6), [0, 3]), ((163, 10), [0, 3]), ((163, 23), [0, 92, 93, 94]), ((173, 9), [0, 3, 4]), ((173, 16), [0, 3, 4, 5, 39]), ((172, 20), [1, 5]), ((114, 6), [0, 17]), ((114, 11), [0, 3]), ((114, 16), [0, 3, 34]), ((113, 10), [20]), ((112, 6), [0, 17]), ((112, 11), [0, 3]), ((111, 6), [0, 15]), ((111, 13), [0, 4, 5]), ((110, 9), [0, 4, 5]), ((110, 14), [0, 4, 5, 27]), ((117, 9), [0, 3, 4]), ((117, 16), [0, 3, 4, 5]), ((185, 6), [0, 3, 17]), ((184, 4), [0, 1, 2]), ((184, 7), [0, 1, 2, 6]), ((184, 14), [0, 1, 2, 6]), ((183, 20), [5]), ((155, 6), [0, 20]), ((155, 36), [0, 58])], true⟩
end
end Go.Proofs.YthjhonhhbddhkaaGreatDoor
/- Rows that are made, lengthened and handed out by value. -/
namespace Go.Ev
noncomputable section
set_option linter.unusedVariables false
variable {P : Program} {pl : Pol} {X : Ext} {H H0 H1 : T OB} {nx nx0 nx1 : Nat} {v u : Value} {R : Value → T OB → Nat → Prop}
theorem Wq.new {e : TypeId} {l : List Value} {q : T OB → Nat → Q} (h : Ag nx0 H0 nx H) (hk : ∀ H', IsB H' nx l e → (∀ b l e, b < nx → IsB H b l e → IsB H' b l e) → Ag nx0 H0 (nx + 1) H' → WqR P pl X (q H' (nx + 1)) nx0 H0 R) :
    WqR P pl X (q (Ev.set H (bits nx) (some (newOB l e))) (nx + 1)) nx0 H0 R := hk _ (IsB.new l e) (fun b l e hb h => h.other (by omega) _) (h.succ.set h.1 _)
/-- A row that is written out. -/
theorem Wq.row {t e : TypeId} {s n : Nat} {vs : List (Nat × Value)} {z l : List Value} {k : Value → T OB → Nat → Q} (hu : P.underlying t = some (.slice e)) (hs : szOf P e = some s) (hz : zeroC P e = some z)
    (hg : (Nat.ble (n * s) 16777216 && Nat.blt 0 (n * s) && Nat.blt 0 z.length) = true) (hf : Instr.fill (fun i => some (i * s, s)) (zeroRow z (n * s)) vs = some ⟨l⟩) (h : Ag nx0 H0 nx H)
    (hk : ∀ H', IsB H' nx l e → (∀ b l e, b < nx → IsB H b l e → IsB H' b l e) → Ag nx0 H0 (nx + 1) H' → WqR P pl X (k (.slice (some ⟨nx, 0, none⟩) n n) H' (nx + 1)) nx0 H0 R) :
    WqR P pl X (effQ (efBuildSlice P H nx t n (some vs)) k) nx0 H0 R := by
  have e1 : effQ (efBuildSlice P H nx t n (some vs)) k = k (.slice (some ⟨nx, 0, none⟩) n n) (Ev.set H (bits nx) (some (newOB l e))) (nx + 1) := by
    unfold efBuildSlice sliceTK
    rw [optK_some, hu]
    simp only [hs, optK_some, hz, hg, cond_true, hf]
    rw [newK_eq, natF_eq]
    rfl
  rw [e1]
  exact Wq.new h hk
/-- What is handed to an append: how many, and their cells. -/
theorem xsOf_b {b s n c : Nat} {l : List Value} {e : TypeId} (h : IsB H b l e) (hn : l.length = n * s) : xsOf H s (.slice (some ⟨b, 0, none⟩) n c) = some (n, l) := by
  obtain ⟨tr, h1, h2⟩ := h
  show optK (cellsOf H s (some ⟨b, 0, none⟩) n) (fun l => some (n, l)) none = _
  unfold cellsOf
  simp only
  rw [h1]
  show optK (bif Nat.ble (0 + n * s) l.length then toL tr (n * s) 0 else none) (fun l => some (n, l)) none = _
  rw [Nat.zero_add, hn, Nat.ble_eq_true_of_le (Nat.le_refl _), cond_true, ← hn, toL_of h2 _ _ (by omega)]
  simp
theorem xsOf_row (s : Nat) (es : List Value) : xsOf H s (rowV s es) = some (es.length, es.flatMap fun u => u.cells.toList) := by
  show (bif Nat.beq s s then some (es.length, es.flatMap fun u => u.cells.toList) else none) = _
  rw [Nat.beq_refl]; rfl
/-- An append of a row. -/
def isStr (v : Value) : Bool := match v with
  | .string _ => true
  | _ => false
theorem efAppS_eq {t : TypeId} {x : Value} {base : Option Addr} {sl sc : Nat} (hx : isStr x = false) : efAppS P H nx [t, t] (some [.slice base sl sc, x]) = sliceTK P t (fun e s => optK (xsOf H s x) (fun p => bif apSmall P e s (sl + p.1) then apGo P H nx e s base sl sc p.1 p.2 else .bad) .bad) .bad := by
  have e1 : efAppS P H nx [t, t] (some [.slice base sl sc, x]) = efAppend P H nx [t, t] (some [.slice base sl sc, x]) := by cases x <;> first | rfl | cases hx
  rw [e1]
  show (bif !Nat.beq t t then Eff.bad else _) = _
  rw [Nat.beq_refl]; rfl
theorem Wq.app0 {t e : TypeId} {s m : Nat} {x : Value} {xs : List Value} {k : Value → T OB → Nat → Q} (hu : P.underlying t = some (.slice e)) (hs : szOf P e = some s) (hx : isStr x = false) (hxs : xsOf H s x = some (m, xs)) (hsm : apSmall P e s m = true) (h : Ag nx0 H0 nx H)
    (h0 : m = 0 → WqR P pl X (k (.slice none 0 0) H nx) nx0 H0 R)
    (hk : ∀ H', 0 < m → IsB H' nx xs e → (∀ b l e, b < nx → IsB H b l e → IsB H' b l e) → Ag nx0 H0 (nx + 1) H' → WqR P pl X (k (.slice (some ⟨nx, 0, none⟩) m unk) H' (nx + 1)) nx0 H0 R) :
    WqR P pl X (effQ (efAppS P H nx [t, t] (some [.slice none 0 0, x])) k) nx0 H0 R := by
  rw [efAppS_eq hx]
  unfold sliceTK
  rw [hu]
  simp only [hs, optK_some, hxs, Nat.zero_add, hsm, cond_true]
  show WqR P pl X (effQ (bif Nat.beq 0 0 && Nat.beq 0 0 then (bif Nat.beq m 0 then .val (.slice none 0 0) H nx else apNew H nx e m xs) else .bad) k) nx0 H0 R
  cases m with
  | zero => exact h0 rfl
  | succ m =>
    show WqR P pl X (effQ (apNew H nx e (m + 1) xs) k) nx0 H0 R
    rw [newK_mk]
    exact Wq.new (q := fun H n => k (.slice (some ⟨nx, 0, none⟩) (m + 1) unk) H n) h fun H' a b c => hk H' (Nat.succ_pos _) a b c
theorem Wq.app {t e e' : TypeId} {b s n m : Nat} {x : Value} {l xs : List Value} {k : Value → T OB → Nat → Q} (hu : P.underlying t = some (.slice e)) (hs : szOf P e = some s) (hb : IsB H b l e') (hs' : szOf P e' = some s) (hl : l.length = n * s) (hx : isStr x = false) (hxs : xsOf H s x = some (m, xs))
    (hone : xs.all oneCell = true) (hsm : apSmall P e s (n + m) = true) (h : Ag nx0 H0 nx H) (hbn : nx0 ≤ b) (hbx : b < nx)
    (hk : ∀ H', IsB H' nx (l ++ xs) e → (∀ c l e, c ≠ b → c < nx → IsB H c l e → IsB H' c l e) → Ag nx0 H0 (nx + 1) H' → WqR P pl X (k (.slice (some ⟨nx, 0, none⟩) (n + m) unk) H' (nx + 1)) nx0 H0 R) :
    WqR P pl X (effQ (efAppS P H nx [t, t] (some [.slice (some ⟨b, 0, none⟩) n unk, x])) k) nx0 H0 R := by
  rw [efAppS_eq hx]
  unfold sliceTK
  rw [hu]
  simp only [hs, optK_some, hxs, hsm, cond_true]
  obtain ⟨tr, h1, h2⟩ := hb
  have e1 : apGo P H nx e s (some ⟨b, 0, none⟩) n unk m xs = apNew (Ev.set H (bits b) (some .dead)) nx e (n + m) (l ++ xs) := by
    show apAt P H nx e s b 0 n unk m xs = _
    unfold apAt
    rw [h1]
    have eu : Nat.beq unk unk = true := Nat.beq_refl _
    simp only [cellsK, eu, cond_true]
    unfold apU esIs
    rw [h1]
    show (bif Nat.beq 0 0 && Nat.ble (n * s) l.length && optK (szOf P e') (fun z => Nat.beq z s) false && xs.all oneCell then _ else _) = _
    rw [hs', optK_some, Nat.beq_refl, hl, Nat.ble_eq_true_of_le (Nat.le_refl _), hone]
    have : toL tr (n * s) 0 = some l := by rw [← hl, toL_of h2 _ _ (by omega)]; simp
    rw [this, Nat.beq_refl]
    show setK (bits b) H (some .dead) (fun H => apNew H nx e (n + m) (l ++ xs)) = _
    rw [setK_set]
  rw [e1, newK_mk]
  exact Wq.new (q := fun H n' => k (.slice (some ⟨nx, 0, none⟩) (n + m) unk) H n') (h.set hbn _) fun H' ha hb hc => hk H' ha (fun c l e hcb hcn hi => hb c l e hcn (hi.other hcb _)) hc
/-- A row is handed out by value. -/
theorem chunk_cells : ∀ (l : List Value), chunk false 1 l.length l = some l
  | [] => rfl
  | v :: l => by
    show (bif Nat.ble 1 (l.length + 1) then optK (chunk false 1 l.length l) (fun r => bK false _ (optK (some v) (fun v => some (v :: r)) none)) none else none) = _
    rw [Nat.ble_eq_true_of_le (by omega), chunk_cells l]; rfl
theorem chunk_aggs (s : Nat) : ∀ (es : List (List Value)), (∀ x, x ∈ es → x.length = s) → chunk true s es.length es.flatten = some (es.map fun x => .agg ⟨x⟩)
  | [], _ => rfl
  | x :: es, h => by
    have hx := h x List.mem_cons_self
    show (bif Nat.ble s (x ++ es.flatten).length then optK (chunk true s es.length ((x ++ es.flatten).drop s)) (fun r => some (.agg ⟨(x ++ es.flatten).take s⟩ :: r)) none else none) = _
    rw [Nat.ble_eq_true_of_le (by simp; omega), ← hx, List.drop_left, List.take_left, hx, chunk_aggs s es fun y hy => h y (List.mem_cons_of_mem _ hy)]
    rfl
theorem Wq.frz {t e e' : TypeId} {b s n c : Nat} {a : Bool} {l es : List Value} {k : Value → T OB → Nat → Q} (hu : P.underlying t = some (.slice e)) (hs : szOf P e = some s) (ha : aggQ P e = some a) (hpos : (Nat.blt 0 s && (a || Nat.beq s 1)) = true) (hb : IsB H b l e') (hl : l.length = n * s)
    (hc : (Nat.beq c unk || Nat.ble n c) = true) (hch : chunk a s n l = some es) (hone : (es.all fun x => Ev.bK a true (oneCell x)) = true) (h : Ag nx0 H0 nx H) (hbn : nx0 ≤ b)
    (hk : ∀ H', (∀ c l e, c ≠ b → IsB H c l e → IsB H' c l e) → Ag nx0 H0 (nx + 1) H' → WqR P pl X (k (rowV s es) H' (nx + 1)) nx0 H0 R) :
    WqR P pl X (frzV P t (.slice (some ⟨b, 0, none⟩) n c) H nx k) nx0 H0 R := by
  obtain ⟨tr, h1, h2⟩ := hb
  have e2 : frzS P H e b 0 n = some (rowV s es) := by
    unfold frzS
    rw [h1]
    show optK (szOf P e) (fun s => optK (aggQ P e) (fun a => bif Nat.ble (0 + n * s) l.length && Nat.blt 0 s && (a || Nat.beq s 1) then _ else none) none) none = _
    rw [hs, optK_some, ha, optK_some, Nat.zero_add, hl, Nat.ble_eq_true_of_le (Nat.le_refl _), Bool.true_and, hpos, cond_true]
    have : toL tr (n * s) 0 = some l := by rw [← hl, toL_of h2 _ _ (by omega)]; simp
    rw [this, optK_some, hch, optK_some, hone]
    rfl
  have e1 : frzV P t (.slice (some ⟨b, 0, none⟩) n c) H nx k = k (rowV s es) (Ev.set H (bits b) (some .dead)) (nx + 1) := by
    unfold frzV
    rw [hu]
    simp only
    unfold frz1
    rw [hu]
    simp only
    rw [hc, cond_true, e2, optK_some, setK_set, natF_eq]
  rw [e1]
  exact hk _ (fun c l e hc hi => hi.other hc _) ((h.set hbn _).succ)
/-! by number -/
theorem rdFA_ptr {s : TypeId} {f d b o : Nat} (h : fieldOff P s f = some d) : rdFieldAddr P s (some (.pointer (some ⟨b, o, none⟩))) f = some (.pointer (some ⟨b, o + d, none⟩)) := by
  show faV (fieldOff P s f) (fieldIn P s f) (.pointer (some ⟨b, o, none⟩)) = _
  rw [h]
  show natF (Nat.add o d) (fun o => some (Value.pointer (some ⟨b, o, none⟩))) = _
  rw [natF_eq]; rfl
theorem rdIndex_sl {t : TypeId} {s b off len c i : Nat} (hs : elSz P t = some s) (hi : i < len) (k : IntKind) : rdIndexAddr P t (some (.slice (some ⟨b, off, none⟩) len c)) (some (.int k (i : Int))) = some (.pointer (some ⟨b, off + i * s, none⟩)) := by
  show intNK (i : Int) (rdIA P t (some (.slice (some ⟨b, off, none⟩) len c))) none = _
  rw [intNK_ofNat]
  show optK (elSz P t) (fun s => bif Nat.blt i len then natF (Nat.add off (Nat.mul i s)) (fun o => some (Value.pointer (some ⟨b, o, none⟩))) else none) none = _
  rw [hs, optK_some, show Nat.blt i len = true from Nat.ble_eq_true_of_le hi, cond_true, natF_eq]
  rfl
theorem rdLen_sl {t ty : TypeId} {a : Addr} {n c : Nat} (h : isSliceT P (some t) = true) : rdLen P #[t] ty (some [.slice (some a) n c]) = some (.int .i64 (n : Int)) := by
  show (bif isSliceT P (some t) then some (Value.int .i64 (.ofNat n)) else none) = _
  rw [h]; rfl
@[simp] theorem ldV_sl (a : Option Addr) (n c : Nat) : ldV (some false) (some 1) (.slice a n c) = some (.slice a n c) := rfl
@[simp] theorem oneCell_sl (a : Option Addr) (n c : Nat) : oneCell (.slice a n c) = true := rfl
@[simp] theorem rdNil_ep (u : Value) : rdNil (some (eptrV u)) = some (eptrV u) := rfl
@[simp] theorem rdNil_ptr (a : Addr) : rdNil (some (.pointer (some a))) = some (.pointer (some a)) := rfl
theorem Wq.mk {t e : TypeId} {i : TypeInfo} {n c : Nat} {z : List Value} {k : Value → T OB → Nat → Q} (hu : P.underlying t = some (.slice e)) (hi : P.info? e = some i) (hz : zeroC P e = some z)
    (hg : (Nat.ble n c && Nat.ble (i.bytes * c) 281474976710656 && Nat.ble c 274877906944 && Nat.beq i.size z.length && Nat.blt 0 i.size) = true) (h1 : z.length ≠ 1) (hc : Nat.ble (c * i.size) 40000 = true) (h : Ag nx0 H0 nx H)
    (hk : ∀ H', IsB H' nx (rowL z c) e → (∀ b l e, b < nx → IsB H b l e → IsB H' b l e) → Ag nx0 H0 (nx + 1) H' → WqR P pl X (k (.slice (some ⟨nx, 0, none⟩) n c) H' (nx + 1)) nx0 H0 R) :
    WqR P pl X (effQ (efMakeSlice P H nx t (some (.int .i64 (n : Int))) (some (.int .i64 (c : Int)))) k) nx0 H0 R := by
  have e1 : efMakeSlice P H nx t (some (.int .i64 (n : Int))) (some (.int .i64 (c : Int))) = mkSl P H nx e n c := by
    unfold efMakeSlice
    rw [hu]
    show intNK (n : Int) (fun l => intNK (c : Int) (fun c => mkSl P H nx e l c) .bad) .bad = _
    rw [intNK_ofNat, intNK_ofNat]
  have e2 : mkSl P H nx e n c = .val (.slice (some ⟨nx, 0, none⟩) n c) (Ev.set H (bits nx) (some (newOB (rowL z c) e))) (nx + 1) := by
    unfold mkSl
    rw [hi, hz]
    simp only
    rw [hg, cond_true]
    split
    · rename_i z'; exact absurd rfl h1
    · rw [hc, cond_true, newK_eq]
  rw [e1, e2]
  exact Wq.new (q := fun H n' => k (.slice (some ⟨nx, 0, none⟩) n c) H n') h hk
/-- A call, its arguments in memory. -/
theorem Wq.callR {f : FuncId} {args : List Value} {R1 : Value → T OB → Nat → Prop} {k p : Value → T OB → Nat → Q} (hx : X f args = none) (h : WqR P pl X (evT P pl (.call f args false none H nx)) nx0 H0 R1)
    (hk : ∀ u H' nx', Ag nx0 H0 nx' H' → R1 u H' nx' → WqR P pl X (k u H' nx') nx0 H0 R) : WqR P pl X (callQ (.call f args false none H nx) k p) nx0 H0 R := by
  obtain ⟨u, H1, nx1, h1, hR1, h2⟩ := h
  obtain ⟨v, H2, nx2, h3, hR, h4⟩ := hk u H1 nx1 h1 hR1
  refine ⟨v, H2, nx2, h3, hR, ?_⟩
  show optK (F P pl X (.call f args false none H nx)) (fun r => (match r.o with | .ret v => k v r.H r.nx | .pan v => p v r.H r.nx : Q).run (F P pl X)) none = _
  have e1 : F P pl X (.call f args false none H nx) = some ⟨.ret u, false, H1, nx1⟩ := by
    rw [F_eq]
    show @Option.rec Value (fun _ => Option Rt) _ (fun v => some ⟨.ret v, false, H, nx⟩) (X f args) = _
    rw [hx]
    exact h2
  rw [e1]
  exact h4
theorem Wq.callAt {f : FuncId} {args : List Value} {k p : Value → T OB → Nat → Q} (hx : X f args = none) (h : Wq P pl X (evT P pl (.call f args false none H nx)) nx0 H0 u)
    (hk : ∀ H' nx', Ag nx0 H0 nx' H' → WqR P pl X (k u H' nx') nx0 H0 R) : WqR P pl X (callQ (.call f args false none H nx) k p) nx0 H0 R :=
  Wq.callR hx h fun u' H' nx' hA hu => by subst hu; exact hk H' nx' hA
theorem max_int (ts : Array TypeId) (t : TypeId) (a b : Int) : bltV P .max ts t (some [.int .i64 a, .int .i64 b]) = some (.int .i64 (if b > a then b else a)) := by
  show (bif true && (true && true) then nextV (pureRun P (builtin .max ts t #[] ⟨[.int .i64 a, .int .i64 b]⟩)) else none) = _
  have e : pureRun P (builtin .max ts t #[] ⟨[.int .i64 a, .int .i64 b]⟩) = some (.value (.int .i64 (if b > a then b else a))) := by
    simp only [builtin, Builtin.max_]
    simp [pureRun_bind, Builtin.max2]
    rfl
  rw [e]
  show (valF (.int .i64 (if b > a then b else a)) fun v => bif flat v then some v else none) = _
  rw [valF_eq]; rfl
/-- A variable that is written once, and what stays behind it. -/
theorem Wq.varB {e t : TypeId} {l : List Value} {s : Nat} {x : Value} {k : T OB → Nat → Q} (hz : zeroC P e = some l) (hs : szOf P t = some s) (hl : l.length = s) (hx : x.cells.toList.length = s) (hone : x.cells.toList.all oneCell = true)
    (h : Ag nx0 H0 nx H) (hk : ∀ H' nx', Ag nx0 H0 nx' H' → nx ≤ nx' → (∀ b l e, b < nx → IsB H b l e → IsB H' b l e) → WqR P pl X (k H' nx') nx0 H0 R) : WqR P pl X (effQ (efAlloc P H nx e) fun p H nx => frSt P H nx t (some p) x k) nx0 H0 R := by
  rw [effQ_alloc hz]
  have hg : (Ev.set H (bits nx) (some (newOB l e))).get (bits nx) = some (newOB l e) := by rw [get_at, if_pos rfl]
  have e1 : frSt P (Ev.set H (bits nx) (some (newOB l e))) (nx + 1) t (some (ptrAt nx)) x k = k (Ev.set (Ev.set H (bits nx) (some (newOB l e))) (bits nx) (some .dead)) (nx + 1 + 1) := by
    show cellsQ ((Ev.set H (bits nx) (some (newOB l e))).get (bits nx)) (fun n _ _ => optK (szOf P t) (fun s => bif Nat.beq 0 0 && (Nat.beq n s && (Nat.beq x.cells.toList.length s && x.cells.toList.all oneCell)) then
      setK (bits nx) (Ev.set H (bits nx) (some (newOB l e))) (some .dead) fun H => Ev.natF (Nat.succ (nx + 1)) fun n => k H n else .bad) .bad) = _
    rw [hg]
    show optK (szOf P t) (fun s => bif Nat.beq 0 0 && (Nat.beq l.length s && (Nat.beq x.cells.toList.length s && x.cells.toList.all oneCell)) then
      setK (bits nx) (Ev.set H (bits nx) (some (newOB l e))) (some .dead) fun H => Ev.natF (Nat.succ (nx + 1)) fun n => k H n else .bad) .bad = _
    rw [hs, optK_some, hl, hx, hone, setK_set, natF_eq]
    have e2 : Nat.beq s s = true := Nat.beq_refl s
    rw [e2]
    rfl
  rw [e1]
  exact hk _ _ ((((h.set h.1 _).succ).set h.1 _).succ) (by omega) fun b l e hb hi => (hi.other (by omega) _).other (by omega) _
end
end Go.Ev
/- What the types are that the functions name. -/
namespace Go.Proofs.YthjhonhhbddhkaaGreatDoor
open Go.Ev Go.RowKit
noncomputable section
@[simp] theorem fa_31_0 (c0 c1 c2 c3 : Value) : rdFieldAddr P 31 (some (eptrV (.agg ⟨[c0, c1, c2, c3]⟩))) 0 = optK (bif oneCell c0 then some c0 else none) (fun x => some (eptrV x)) none := by kernel_rfl
@[simp] theorem fa_31_1 (c0 c1 c2 c3 : Value) : rdFieldAddr P 31 (some (eptrV (.agg ⟨[c0, c1, c2, c3]⟩))) 1 = optK (bif oneCell c1 then some c1 else none) (fun x => some (eptrV x)) none := by kernel_rfl
@[simp] theorem fa_31_2 (c0 c1 c2 c3 : Value) : rdFieldAddr P 31 (some (eptrV (.agg ⟨[c0, c1, c2, c3]⟩))) 2 = optK (bif oneCell c2 then some c2 else none) (fun x => some (eptrV x)) none := by kernel_rfl
@[simp] theorem fa_44_0 (c0 c1 c2 c3 c4 c5 : Value) : rdFieldAddr P 44 (some (eptrV (.agg ⟨[c0, c1, c2, c3, c4, c5]⟩))) 0 = optK (bif oneCell c0 then some c0 else none) (fun x => some (eptrV x)) none := by kernel_rfl
@[simp] theorem fa_44_1 (c0 c1 c2 c3 c4 c5 : Value) : rdFieldAddr P 44 (some (eptrV (.agg ⟨[c0, c1, c2, c3, c4, c5]⟩))) 1 = optK (bif oneCell c1 then some c1 else none) (fun x => some (eptrV x)) none := by kernel_rfl
@[simp] theorem fa_44_2 (c0 c1 c2 c3 c4 c5 : Value) : rdFieldAddr P 44 (some (eptrV (.agg ⟨[c0, c1, c2, c3, c4, c5]⟩))) 2 = optK (bif oneCell c2 then some c2 else none) (fun x => some (eptrV x)) none := by kernel_rfl
@[simp] theorem fa_44_3 (c0 c1 c2 c3 c4 c5 : Value) : rdFieldAddr P 44 (some (eptrV (.agg ⟨[c0, c1, c2, c3, c4, c5]⟩))) 3 = optK (bif oneCell c3 then some c3 else none) (fun x => some (eptrV x)) none := by kernel_rfl
@[simp] theorem fa_44_4 (c0 c1 c2 c3 c4 c5 : Value) : rdFieldAddr P 44 (some (eptrV (.agg ⟨[c0, c1, c2, c3, c4, c5]⟩))) 4 = optK (bif oneCell c4 then some c4 else none) (fun x => some (eptrV x)) none := by kernel_rfl
@[simp] theorem fa_44_5 (c0 c1 c2 c3 c4 c5 : Value) : rdFieldAddr P 44 (some (eptrV (.agg ⟨[c0, c1, c2, c3, c4, c5]⟩))) 5 = optK (bif oneCell c5 then some c5 else none) (fun x => some (eptrV x)) none := by kernel_rfl
@[simp] theorem fa_47_0 (c0 c1 c2 c3 : Value) : rdFieldAddr P 47 (some (eptrV (.agg ⟨[c0, c1, c2, c3]⟩))) 0 = optK (bif oneCell c0 then some c0 else none) (fun x => some (eptrV x)) none := by kernel_rfl
@[simp] theorem fa_47_1 (c0 c1 c2 c3 : Value) : rdFieldAddr P 47 (some (eptrV (.agg ⟨[c0, c1, c2, c3]⟩))) 1 = optK (bif oneCell c1 then some c1 else none) (fun x => some (eptrV x)) none := by kernel_rfl
@[simp] theorem fa_47_2 (c0 c1 c2 c3 : Value) : rdFieldAddr P 47 (some (eptrV (.agg ⟨[c0, c1, c2, c3]⟩))) 2 = optK (bif oneCell c2 then some c2 else none) (fun x => some (eptrV x)) none := by kernel_rfl
@[simp] theorem fa_47_3 (c0 c1 c2 c3 : Value) : rdFieldAddr P 47 (some (eptrV (.agg ⟨[c0, c1, c2, c3]⟩))) 3 = optK (bif oneCell c3 then some c3 else none) (fun x => some (eptrV x)) none := by kernel_rfl
@[simp] theorem fa_52_0 (c0 c1 c2 : Value) : rdFieldAddr P 52 (some (eptrV (.agg ⟨[c0, c1, c2]⟩))) 0 = optK (bif oneCell c0 then some c0 else none) (fun x => some (eptrV x)) none := by kernel_rfl
@[simp] theorem fa_52_1 (c0 c1 c2 : Value) : rdFieldAddr P 52 (some (eptrV (.agg ⟨[c0, c1, c2]⟩))) 1 = optK (bif oneCell c1 then some c1 else none) (fun x => some (eptrV x)) none := by kernel_rfl
@[simp] theorem fa_52_2 (c0 c1 c2 : Value) : rdFieldAddr P 52 (some (eptrV (.agg ⟨[c0, c1, c2]⟩))) 2 = optK (bif oneCell c2 then some c2 else none) (fun x => some (eptrV x)) none := by kernel_rfl
@[simp] theorem fa_55_0 (c0 c1 : Value) : rdFieldAddr P 55 (some (eptrV (.agg ⟨[c0, c1]⟩))) 0 = optK (bif oneCell c0 then some c0 else none) (fun x => some (eptrV x)) none := by kernel_rfl
@[simp] theorem fa_55_1 (c0 c1 : Value) : rdFieldAddr P 55 (some (eptrV (.agg ⟨[c0, c1]⟩))) 1 = optK (bif oneCell c1 then some c1 else none) (fun x => some (eptrV x)) none := by kernel_rfl
@[simp] theorem fa_57_0 (c0 c1 c2 c3 c4 c5 c6 c7 c8 c9 c10 c11 c12 c13 c14 c15 c16 : Value) : rdFieldAddr P 57 (some (eptrV (.agg ⟨[c0, c1, c2, c3, c4, c5, c6, c7, c8, c9, c10, c11, c12, c13, c14, c15, c16]⟩))) 0 = optK (bif oneCell c0 then some c0 else none) (fun x => some (eptrV x)) none := by kernel_rfl
@[simp] theorem fa_57_1 (c0 c1 c2 c3 c4 c5 c6 c7 c8 c9 c10 c11 c12 c13 c14 c15 c16 : Value) : rdFieldAddr P 57 (some (eptrV (.agg ⟨[c0, c1, c2, c3, c4, c5, c6, c7, c8, c9, c10, c11, c12, c13, c14, c15, c16]⟩))) 1 = some (eptrV (.agg ⟨[c1, c2, c3, c4]⟩)) := by kernel_rfl
@[simp] theorem fa_57_2 (c0 c1 c2 c3 c4 c5 c6 c7 c8 c9 c10 c11 c12 c13 c14 c15 c16 : Value) : rdFieldAddr P 57 (some (eptrV (.agg ⟨[c0, c1, c2, c3, c4, c5, c6, c7, c8, c9, c10, c11, c12, c13, c14, c15, c16]⟩))) 2 = some (eptrV (.agg ⟨[c5, c6, c7, c8, c9, c10]⟩)) := by kernel_rfl
@[simp] theorem fa_57_3 (c0 c1 c2 c3 c4 c5 c6 c7 c8 c9 c10 c11 c12 c13 c14 c15 c16 : Value) : rdFieldAddr P 57 (some (eptrV (.agg ⟨[c0, c1, c2, c3, c4, c5, c6, c7, c8, c9, c10, c11, c12, c13, c14, c15, c16]⟩))) 3 = optK (bif oneCell c11 then some c11 else none) (fun x => some (eptrV x)) none := by kernel_rfl
@[simp] theorem fa_57_4 (c0 c1 c2 c3 c4 c5 c6 c7 c8 c9 c10 c11 c12 c13 c14 c15 c16 : Value) : rdFieldAddr P 57 (some (eptrV (.agg ⟨[c0, c1, c2, c3, c4, c5, c6, c7, c8, c9, c10, c11, c12, c13, c14, c15, c16]⟩))) 4 = some (eptrV (.agg ⟨[c12, c13, c14]⟩)) := by kernel_rfl
@[simp] theorem fa_57_5 (c0 c1 c2 c3 c4 c5 c6 c7 c8 c9 c10 c11 c12 c13 c14 c15 c16 : Value) : rdFieldAddr P 57 (some (eptrV (.agg ⟨[c0, c1, c2, c3, c4, c5, c6, c7, c8, c9, c10, c11, c12, c13, c14, c15, c16]⟩))) 5 = some (eptrV (.agg ⟨[c15, c16]⟩)) := by kernel_rfl
@[simp] theorem fa_65_0 (c0 c1 c2 c3 c4 c5 c6 c7 : Value) : rdFieldAddr P 65 (some (eptrV (.agg ⟨[c0, c1, c2, c3, c4, c5, c6, c7]⟩))) 0 = optK (bif oneCell c0 then some c0 else none) (fun x => some (eptrV x)) none := by kernel_rfl
@[simp] theorem fa_65_1 (c0 c1 c2 c3 c4 c5 c6 c7 : Value) : rdFieldAddr P 65 (some (eptrV (.agg ⟨[c0, c1, c2, c3, c4, c5, c6, c7]⟩))) 1 = optK (bif oneCell c1 then some c1 else none) (fun x => some (eptrV x)) none := by kernel_rfl
@[simp] theorem fa_65_2 (c0 c1 c2 c3 c4 c5 c6 c7 : Value) : rdFieldAddr P 65 (some (eptrV (.agg ⟨[c0, c1, c2, c3, c4, c5, c6, c7]⟩))) 2 = some (eptrV (.agg ⟨[c2, c3, c4, c5, c6, c7]⟩)) := by kernel_rfl
@[simp] theorem fa_116_0 (c0 c1 : Value) : rdFieldAddr P 116 (some (eptrV (.agg ⟨[c0, c1]⟩))) 0 = optK (bif oneCell c0 then some c0 else none) (fun x => some (eptrV x)) none := by kernel_rfl
@[simp] theorem fa_116_1 (c0 c1 : Value) : rdFieldAddr P 116 (some (eptrV (.agg ⟨[c0, c1]⟩))) 1 = optK (bif oneCell c1 then some c1 else none) (fun x => some (eptrV x)) none := by kernel_rfl
@[simp] theorem fa_138_0 (c0 c1 c2 : Value) : rdFieldAddr P 138 (some (eptrV (.agg ⟨[c0, c1, c2]⟩))) 0 = optK (bif oneCell c0 then some c0 else none) (fun x => some (eptrV x)) none := by kernel_rfl
@[simp] theorem fa_138_1 (c0 c1 c2 : Value) : rdFieldAddr P 138 (some (eptrV (.agg ⟨[c0, c1, c2]⟩))) 1 = optK (bif oneCell c1 then some c1 else none) (fun x => some (eptrV x)) none := by kernel_rfl
@[simp] theorem fa_138_2 (c0 c1 c2 : Value) : rdFieldAddr P 138 (some (eptrV (.agg ⟨[c0, c1, c2]⟩))) 2 = optK (bif oneCell c2 then some c2 else none) (fun x => some (eptrV x)) none := by kernel_rfl
@[simp] theorem fp_31_0 (b : Nat) : rdFieldAddr P 31 (some (.pointer (some ⟨b, 0, none⟩))) 0 = some (.pointer (some ⟨b, 0, none⟩)) := by kernel_rfl
@[simp] theorem fp_31_1 (b : Nat) : rdFieldAddr P 31 (some (.pointer (some ⟨b, 0, none⟩))) 1 = some (.pointer (some ⟨b, 1, none⟩)) := by kernel_rfl
@[simp] theorem fp_31_2 (b : Nat) : rdFieldAddr P 31 (some (.pointer (some ⟨b, 0, none⟩))) 2 = some (.pointer (some ⟨b, 2, none⟩)) := by kernel_rfl
@[simp] theorem fp_31_3 (b : Nat) : rdFieldAddr P 31 (some (.pointer (some ⟨b, 0, none⟩))) 3 = some (.pointer (some ⟨b, 3, none⟩)) := by kernel_rfl
@[simp] theorem fp_44_0 (b : Nat) : rdFieldAddr P 44 (some (.pointer (some ⟨b, 0, none⟩))) 0 = some (.pointer (some ⟨b, 0, none⟩)) := by kernel_rfl
@[simp] theorem fp_44_1 (b : Nat) : rdFieldAddr P 44 (some (.pointer (some ⟨b, 0, none⟩))) 1 = some (.pointer (some ⟨b, 1, none⟩)) := by kernel_rfl
@[simp] theorem fp_44_2 (b : Nat) : rdFieldAddr P 44 (some (.pointer (some ⟨b, 0, none⟩))) 2 = some (.pointer (some ⟨b, 2, none⟩)) := by kernel_rfl
@[simp] theorem fp_44_3 (b : Nat) : rdFieldAddr P 44 (some (.pointer (some ⟨b, 0, none⟩))) 3 = some (.pointer (some ⟨b, 3, none⟩)) := by kernel_rfl
@[simp] theorem fp_44_4 (b : Nat) : rdFieldAddr P 44 (some (.pointer (some ⟨b, 0, none⟩))) 4 = some (.pointer (some ⟨b, 4, none⟩)) := by kernel_rfl
@[simp] theorem fp_44_5 (b : Nat) : rdFieldAddr P 44 (some (.pointer (some ⟨b, 0, none⟩))) 5 = some (.pointer (some ⟨b, 5, none⟩)) := by kernel_rfl
@[simp] theorem fp_47_0 (b : Nat) : rdFieldAddr P 47 (some (.pointer (some ⟨b, 0, none⟩))) 0 = some (.pointer (some ⟨b, 0, none⟩)) := by kernel_rfl
@[simp] theorem fp_47_1 (b : Nat) : rdFieldAddr P 47 (some (.pointer (some ⟨b, 0, none⟩))) 1 = some (.pointer (some ⟨b, 1, none⟩)) := by kernel_rfl
@[simp] theorem fp_47_2 (b : Nat) : rdFieldAddr P 47 (some (.pointer (some ⟨b, 0, none⟩))) 2 = some (.pointer (some ⟨b, 2, none⟩)) := by kernel_rfl
@[simp] theorem fp_47_3 (b : Nat) : rdFieldAddr P 47 (some (.pointer (some ⟨b, 0, none⟩))) 3 = some (.pointer (some ⟨b, 3, none⟩)) := by kernel_rfl
@[simp] theorem fp_55_0 (b : Nat) : rdFieldAddr P 55 (some (.pointer (some ⟨b, 0, none⟩))) 0 = some (.pointer (some ⟨b, 0, none⟩)) := by kernel_rfl
@[simp] theorem fp_55_1 (b : Nat) : rdFieldAddr P 55 (some (.pointer (some ⟨b, 0, none⟩))) 1 = some (.pointer (some ⟨b, 1, none⟩)) := by kernel_rfl
@[simp] theorem fp_57_0 (b : Nat) : rdFieldAddr P 57 (some (.pointer (some ⟨b, 0, none⟩))) 0 = some (.pointer (some ⟨b, 0, none⟩)) := by kernel_rfl
@[simp] theorem fp_57_1 (b : Nat) : rdFieldAddr P 57 (some (.pointer (some ⟨b, 0, none⟩))) 1 = some (.pointer (some ⟨b, 1, none⟩)) := by kernel_rfl
@[simp] theorem fp_57_2 (b : Nat) : rdFieldAddr P 57 (some (.pointer (some ⟨b, 0, none⟩))) 2 = some (.pointer (some ⟨b, 5, none⟩)) := by kernel_rfl
@[simp] theorem fp_57_3 (b : Nat) : rdFieldAddr P 57 (some (.pointer (some ⟨b, 0, none⟩))) 3 = some (.pointer (some ⟨b, 11, none⟩)) := by kernel_rfl
@[simp] theorem fp_57_4 (b : Nat) : rdFieldAddr P 57 (some (.pointer (some ⟨b, 0, none⟩))) 4 = some (.pointer (some ⟨b, 12, none⟩)) := by kernel_rfl
@[simp] theorem fp_57_5 (b : Nat) : rdFieldAddr P 57 (some (.pointer (some ⟨b, 0, none⟩))) 5 = some (.pointer (some ⟨b, 15, none⟩)) := by kernel_rfl
@[simp] theorem fp_65_0 (b : Nat) : rdFieldAddr P 65 (some (.pointer (some ⟨b, 0, none⟩))) 0 = some (.pointer (some ⟨b, 0, none⟩)) := by kernel_rfl
@[simp] theorem fp_65_1 (b : Nat) : rdFieldAddr P 65 (some (.pointer (some ⟨b, 0, none⟩))) 1 = some (.pointer (some ⟨b, 1, none⟩)) := by kernel_rfl
@[simp] theorem fp_65_2 (b : Nat) : rdFieldAddr P 65 (some (.pointer (some ⟨b, 0, none⟩))) 2 = some (.pointer (some ⟨b, 2, none⟩)) := by kernel_rfl
@[simp] theorem fp_116_0 (b : Nat) : rdFieldAddr P 116 (some (.pointer (some ⟨b, 0, none⟩))) 0 = some (.pointer (some ⟨b, 0, none⟩)) := by kernel_rfl
@[simp] theorem fp_116_1 (b : Nat) : rdFieldAddr P 116 (some (.pointer (some ⟨b, 0, none⟩))) 1 = some (.pointer (some ⟨b, 1, none⟩)) := by kernel_rfl
@[simp] theorem fp_138_0 (b : Nat) : rdFieldAddr P 138 (some (.pointer (some ⟨b, 0, none⟩))) 0 = some (.pointer (some ⟨b, 0, none⟩)) := by kernel_rfl
@[simp] theorem fp_138_1 (b : Nat) : rdFieldAddr P 138 (some (.pointer (some ⟨b, 0, none⟩))) 1 = some (.pointer (some ⟨b, 1, none⟩)) := by kernel_rfl
@[simp] theorem fp_138_2 (b : Nat) : rdFieldAddr P 138 (some (.pointer (some ⟨b, 0, none⟩))) 2 = some (.pointer (some ⟨b, 2, none⟩)) := by kernel_rfl
theorem fpo_55_1 (b o : Nat) : rdFieldAddr P 55 (some (.pointer (some ⟨b, o, none⟩))) 1 = some (.pointer (some ⟨b, o + 1, none⟩)) := rdFA_ptr (by kernel_rfl)
@[simp] theorem ld_2 (H : T OB) (u : Value) : rdLoad P H 2 (some (eptrV u)) = ldV (some false) (some 1) u := by kernel_rfl
@[simp] theorem ld_3 (H : T OB) (u : Value) : rdLoad P H 3 (some (eptrV u)) = ldV (some false) (some 1) u := by kernel_rfl
@[simp] theorem ld_4 (H : T OB) (u : Value) : rdLoad P H 4 (some (eptrV u)) = ldV (some false) (some 1) u := by kernel_rfl
@[simp] theorem ld_9 (H : T OB) (u : Value) : rdLoad P H 9 (some (eptrV u)) = ldV (some false) (some 1) u := by kernel_rfl
@[simp] theorem ld_24 (H : T OB) (u : Value) : rdLoad P H 24 (some (eptrV u)) = ldV (some false) (some 1) u := by kernel_rfl
@[simp] theorem ld_29 (H : T OB) (u : Value) : rdLoad P H 29 (some (eptrV u)) = ldV (some false) (some 1) u := by kernel_rfl
@[simp] theorem ld_31 (H : T OB) (c0 c1 c2 c3 : Value) : rdLoad P H 31 (some (eptrV (.agg ⟨[c0, c1, c2, c3]⟩))) = some (.agg ⟨[c0, c1, c2, c3]⟩) := by kernel_rfl
@[simp] theorem ld_41 (H : T OB) (u : Value) : rdLoad P H 41 (some (eptrV u)) = ldV (some false) (some 1) u := by kernel_rfl
@[simp] theorem ld_42 (H : T OB) (u : Value) : rdLoad P H 42 (some (eptrV u)) = ldV (some false) (some 1) u := by kernel_rfl
@[simp] theorem ld_44 (H : T OB) (c0 c1 c2 c3 c4 c5 : Value) : rdLoad P H 44 (some (eptrV (.agg ⟨[c0, c1, c2, c3, c4, c5]⟩))) = some (.agg ⟨[c0, c1, c2, c3, c4, c5]⟩) := by kernel_rfl
@[simp] theorem ld_47 (H : T OB) (c0 c1 c2 c3 : Value) : rdLoad P H 47 (some (eptrV (.agg ⟨[c0, c1, c2, c3]⟩))) = some (.agg ⟨[c0, c1, c2, c3]⟩) := by kernel_rfl
@[simp] theorem ld_48 (H : T OB) (u : Value) : rdLoad P H 48 (some (eptrV u)) = ldV (some false) (some 1) u := by kernel_rfl
@[simp] theorem ld_49 (H : T OB) (u : Value) : rdLoad P H 49 (some (eptrV u)) = ldV (some false) (some 1) u := by kernel_rfl
@[simp] theorem ld_50 (H : T OB) (u : Value) : rdLoad P H 50 (some (eptrV u)) = ldV (some false) (some 1) u := by kernel_rfl
@[simp] theorem ld_52 (H : T OB) (c0 c1 c2 : Value) : rdLoad P H 52 (some (eptrV (.agg ⟨[c0, c1, c2]⟩))) = some (.agg ⟨[c0, c1, c2]⟩) := by kernel_rfl
@[simp] theorem ld_53 (H : T OB) (u : Value) : rdLoad P H 53 (some (eptrV u)) = ldV (some false) (some 1) u := by kernel_rfl
@[simp] theorem ld_55 (H : T OB) (c0 c1 : Value) : rdLoad P H 55 (some (eptrV (.agg ⟨[c0, c1]⟩))) = some (.agg ⟨[c0, c1]⟩) := by kernel_rfl
@[simp] theorem ld_57 (H : T OB) (c0 c1 c2 c3 c4 c5 c6 c7 c8 c9 c10 c11 c12 c13 c14 c15 c16 : Value) : rdLoad P H 57 (some (eptrV (.agg ⟨[c0, c1, c2, c3, c4, c5, c6, c7, c8, c9, c10, c11, c12, c13, c14, c15, c16]⟩))) = some (.agg ⟨[c0, c1, c2, c3, c4, c5, c6, c7, c8, c9, c10, c11, c12, c13, c14, c15, c16]⟩) := by kernel_rfl
@[simp] theorem ld_65 (H : T OB) (c0 c1 c2 c3 c4 c5 c6 c7 : Value) : rdLoad P H 65 (some (eptrV (.agg ⟨[c0, c1, c2, c3, c4, c5, c6, c7]⟩))) = some (.agg ⟨[c0, c1, c2, c3, c4, c5, c6, c7]⟩) := by kernel_rfl
@[simp] theorem ld_138 (H : T OB) (c0 c1 c2 : Value) : rdLoad P H 138 (some (eptrV (.agg ⟨[c0, c1, c2]⟩))) = some (.agg ⟨[c0, c1, c2]⟩) := by kernel_rfl
@[simp] theorem ld_182 (H : T OB) (c0 c1 c2 c3 c4 c5 c6 : Value) : rdLoad P H 182 (some (eptrV (.agg ⟨[c0, c1, c2, c3, c4, c5, c6]⟩))) = some (.agg ⟨[c0, c1, c2, c3, c4, c5, c6]⟩) := by kernel_rfl
theorem ix_24 {es : List Value} {i : Nat} {u : Value} (h : es[i]? = some u) (k : IntKind) : rdIndexAddr P 24 (some (rowV 17 es)) (some (.int k (i : Int))) = some (eptrV u) := rdIndex_row (by kernel_rfl) h k
theorem ix_41 {es : List Value} {i : Nat} {u : Value} (h : es[i]? = some u) (k : IntKind) : rdIndexAddr P 41 (some (rowV 6 es)) (some (.int k (i : Int))) = some (eptrV u) := rdIndex_row (by kernel_rfl) h k
theorem ix_42 {es : List Value} {i : Nat} {u : Value} (h : es[i]? = some u) (k : IntKind) : rdIndexAddr P 42 (some (rowV 4 es)) (some (.int k (i : Int))) = some (eptrV u) := rdIndex_row (by kernel_rfl) h k
theorem ix_48 {es : List Value} {i : Nat} {u : Value} (h : es[i]? = some u) (k : IntKind) : rdIndexAddr P 48 (some (rowV 8 es)) (some (.int k (i : Int))) = some (eptrV u) := rdIndex_row (by kernel_rfl) h k
theorem ix_49 {es : List Value} {i : Nat} {u : Value} (h : es[i]? = some u) (k : IntKind) : rdIndexAddr P 49 (some (rowV 1 es)) (some (.int k (i : Int))) = some (eptrV u) := rdIndex_row (by kernel_rfl) h k
theorem ix_50 {es : List Value} {i : Nat} {u : Value} (h : es[i]? = some u) (k : IntKind) : rdIndexAddr P 50 (some (rowV 2 es)) (some (.int k (i : Int))) = some (eptrV u) := rdIndex_row (by kernel_rfl) h k
theorem ix_53 {es : List Value} {i : Nat} {u : Value} (h : es[i]? = some u) (k : IntKind) : rdIndexAddr P 53 (some (rowV 3 es)) (some (.int k (i : Int))) = some (eptrV u) := rdIndex_row (by kernel_rfl) h k
theorem ixs_49 {b off len c i : Nat} (h : i < len) (k : IntKind) : rdIndexAddr P 49 (some (.slice (some ⟨b, off, none⟩) len c)) (some (.int k (i : Int))) = some (.pointer (some ⟨b, off + i * 1, none⟩)) := rdIndex_sl (by kernel_rfl) h k
theorem und_24 : P.underlying 24 = some (.slice 57) := by kernel_rfl
theorem und_29 : P.underlying 29 = some (.slice 31) := by kernel_rfl
theorem und_49 : P.underlying 49 = some (.slice 9) := by kernel_rfl
theorem und_50 : P.underlying 50 = some (.slice 55) := by kernel_rfl
theorem und_120 : P.underlying 120 = some (.slice 5) := by kernel_rfl
@[simp] theorem len_9 (s : ByteArray) (ty : TypeId) : rdLen P #[9] ty (some [.string s]) = some (.int .i64 (s.size : Int)) := rdLen_str s (by kernel_rfl)
@[simp] theorem len_24 (s : Nat) (es : List Value) (ty : TypeId) : rdLen P #[24] ty (some [rowV s es]) = some (.int .i64 (es.length : Int)) := rdLen_row s es (by kernel_rfl)
@[simp] theorem lenS_24 (ty : TypeId) (a : Addr) (n c : Nat) : rdLen P #[24] ty (some [.slice (some a) n c]) = some (.int .i64 (n : Int)) := rdLen_sl (by kernel_rfl)
@[simp] theorem lenN_24 (ty : TypeId) : rdLen P #[24] ty (some [.slice none 0 0]) = some (.int .i64 0) := by kernel_rfl
@[simp] theorem len_29 (s : Nat) (es : List Value) (ty : TypeId) : rdLen P #[29] ty (some [rowV s es]) = some (.int .i64 (es.length : Int)) := rdLen_row s es (by kernel_rfl)
@[simp] theorem lenS_29 (ty : TypeId) (a : Addr) (n c : Nat) : rdLen P #[29] ty (some [.slice (some a) n c]) = some (.int .i64 (n : Int)) := rdLen_sl (by kernel_rfl)
@[simp] theorem lenN_29 (ty : TypeId) : rdLen P #[29] ty (some [.slice none 0 0]) = some (.int .i64 0) := by kernel_rfl
@[simp] theorem len_41 (s : Nat) (es : List Value) (ty : TypeId) : rdLen P #[41] ty (some [rowV s es]) = some (.int .i64 (es.length : Int)) := rdLen_row s es (by kernel_rfl)
@[simp] theorem lenS_41 (ty : TypeId) (a : Addr) (n c : Nat) : rdLen P #[41] ty (some [.slice (some a) n c]) = some (.int .i64 (n : Int)) := rdLen_sl (by kernel_rfl)
@[simp] theorem lenN_41 (ty : TypeId) : rdLen P #[41] ty (some [.slice none 0 0]) = some (.int .i64 0) := by kernel_rfl
@[simp] theorem len_42 (s : Nat) (es : List Value) (ty : TypeId) : rdLen P #[42] ty (some [rowV s es]) = some (.int .i64 (es.length : Int)) := rdLen_row s es (by kernel_rfl)
@[simp] theorem lenS_42 (ty : TypeId) (a : Addr) (n c : Nat) : rdLen P #[42] ty (some [.slice (some a) n c]) = some (.int .i64 (n : Int)) := rdLen_sl (by kernel_rfl)
@[simp] theorem lenN_42 (ty : TypeId) : rdLen P #[42] ty (some [.slice none 0 0]) = some (.int .i64 0) := by kernel_rfl
@[simp] theorem len_48 (s : Nat) (es : List Value) (ty : TypeId) : rdLen P #[48] ty (some [rowV s es]) = some (.int .i64 (es.length : Int)) := rdLen_row s es (by kernel_rfl)
@[simp] theorem lenS_48 (ty : TypeId) (a : Addr) (n c : Nat) : rdLen P #[48] ty (some [.slice (some a) n c]) = some (.int .i64 (n : Int)) := rdLen_sl (by kernel_rfl)
@[simp] theorem lenN_48 (ty : TypeId) : rdLen P #[48] ty (some [.slice none 0 0]) = some (.int .i64 0) := by kernel_rfl
@[simp] theorem len_49 (s : Nat) (es : List Value) (ty : TypeId) : rdLen P #[49] ty (some [rowV s es]) = some (.int .i64 (es.length : Int)) := rdLen_row s es (by kernel_rfl)
@[simp] theorem lenS_49 (ty : TypeId) (a : Addr) (n c : Nat) : rdLen P #[49] ty (some [.slice (some a) n c]) = some (.int .i64 (n : Int)) := rdLen_sl (by kernel_rfl)
@[simp] theorem lenN_49 (ty : TypeId) : rdLen P #[49] ty (some [.slice none 0 0]) = some (.int .i64 0) := by kernel_rfl
@[simp] theorem len_50 (s : Nat) (es : List Value) (ty : TypeId) : rdLen P #[50] ty (some [rowV s es]) = some (.int .i64 (es.length : Int)) := rdLen_row s es (by kernel_rfl)
@[simp] theorem lenS_50 (ty : TypeId) (a : Addr) (n c : Nat) : rdLen P #[50] ty (some [.slice (some a) n c]) = some (.int .i64 (n : Int)) := rdLen_sl (by kernel_rfl)
@[simp] theorem lenN_50 (ty : TypeId) : rdLen P #[50] ty (some [.slice none 0 0]) = some (.int .i64 0) := by kernel_rfl
@[simp] theorem len_53 (s : Nat) (es : List Value) (ty : TypeId) : rdLen P #[53] ty (some [rowV s es]) = some (.int .i64 (es.length : Int)) := rdLen_row s es (by kernel_rfl)
@[simp] theorem lenS_53 (ty : TypeId) (a : Addr) (n c : Nat) : rdLen P #[53] ty (some [.slice (some a) n c]) = some (.int .i64 (n : Int)) := rdLen_sl (by kernel_rfl)
@[simp] theorem lenN_53 (ty : TypeId) : rdLen P #[53] ty (some [.slice none 0 0]) = some (.int .i64 0) := by kernel_rfl
@[simp] theorem len_120 (s : Nat) (es : List Value) (ty : TypeId) : rdLen P #[120] ty (some [rowV s es]) = some (.int .i64 (es.length : Int)) := rdLen_row s es (by kernel_rfl)
@[simp] theorem lenS_120 (ty : TypeId) (a : Addr) (n c : Nat) : rdLen P #[120] ty (some [.slice (some a) n c]) = some (.int .i64 (n : Int)) := rdLen_sl (by kernel_rfl)
@[simp] theorem lenN_120 (ty : TypeId) : rdLen P #[120] ty (some [.slice none 0 0]) = some (.int .i64 0) := by kernel_rfl
theorem zero_31 : zeroC P 31 = some [(.int .i64 0), (.string ⟨⟨[]⟩⟩), (.int .i64 0), (.int .i64 0)] := by kernel_rfl
theorem zero_44 : zeroC P 44 = some [(.int .i64 0), (.int .i64 0), (.string ⟨⟨[]⟩⟩), (.slice none 0 0), (.slice none 0 0), (.slice none 0 0)] := by kernel_rfl
theorem zero_47 : zeroC P 47 = some [(.int .i64 0), (.int .i64 0), (.string ⟨⟨[]⟩⟩), (.slice none 0 0)] := by kernel_rfl
theorem zero_55 : zeroC P 55 = some [(.string ⟨⟨[]⟩⟩), (.slice none 0 0)] := by kernel_rfl
theorem zero_57 : zeroC P 57 = some [(.int .i64 0), (.int .i64 0), (.int .i64 0), (.string ⟨⟨[]⟩⟩), (.slice none 0 0), (.int .i64 0), (.int .i64 0), (.string ⟨⟨[]⟩⟩), (.slice none 0 0), (.slice none 0 0), (.slice none 0 0), (.slice none 0 0), (.slice none 0 0), (.string ⟨⟨[]⟩⟩), (.slice none 0 0), (.string ⟨⟨[]⟩⟩), (.slice none 0 0)] := by kernel_rfl
theorem zero_65 : zeroC P 65 = some [(.string ⟨⟨[]⟩⟩), (.slice none 0 0), (.int .i64 0), (.int .i64 0), (.string ⟨⟨[]⟩⟩), (.slice none 0 0), (.slice none 0 0), (.slice none 0 0)] := by kernel_rfl
theorem zero_138 : zeroC P 138 = some [(.int .i64 0), (.string ⟨⟨[]⟩⟩), (.slice none 0 0)] := by kernel_rfl
theorem agg_2 : aggQ P 2 = some false := by kernel_rfl
theorem agg_3 : aggQ P 3 = some false := by kernel_rfl
theorem agg_4 : aggQ P 4 = some false := by kernel_rfl
theorem agg_9 : aggQ P 9 = some false := by kernel_rfl
theorem agg_24 : aggQ P 24 = some false := by kernel_rfl
theorem agg_29 : aggQ P 29 = some false := by kernel_rfl
theorem agg_31 : aggQ P 31 = some true := by kernel_rfl
theorem agg_41 : aggQ P 41 = some false := by kernel_rfl
theorem agg_42 : aggQ P 42 = some false := by kernel_rfl
theorem agg_44 : aggQ P 44 = some true := by kernel_rfl
theorem agg_47 : aggQ P 47 = some true := by kernel_rfl
theorem agg_48 : aggQ P 48 = some false := by kernel_rfl
theorem agg_52 : aggQ P 52 = some true := by kernel_rfl
theorem agg_53 : aggQ P 53 = some false := by kernel_rfl
theorem agg_55 : aggQ P 55 = some true := by kernel_rfl
theorem agg_57 : aggQ P 57 = some true := by kernel_rfl
theorem agg_182 : aggQ P 182 = some true := by kernel_rfl
theorem sz_2 : szOf P 2 = some 1 := by kernel_rfl
theorem sz_4 : szOf P 4 = some 1 := by kernel_rfl
theorem sz_5 : szOf P 5 = some 1 := by kernel_rfl
theorem sz_9 : szOf P 9 = some 1 := by kernel_rfl
theorem sz_24 : szOf P 24 = some 1 := by kernel_rfl
theorem sz_29 : szOf P 29 = some 1 := by kernel_rfl
theorem sz_31 : szOf P 31 = some 4 := by kernel_rfl
theorem sz_41 : szOf P 41 = some 1 := by kernel_rfl
theorem sz_42 : szOf P 42 = some 1 := by kernel_rfl
theorem sz_44 : szOf P 44 = some 6 := by kernel_rfl
theorem sz_47 : szOf P 47 = some 4 := by kernel_rfl
theorem sz_48 : szOf P 48 = some 1 := by kernel_rfl
theorem sz_52 : szOf P 52 = some 3 := by kernel_rfl
theorem sz_55 : szOf P 55 = some 2 := by kernel_rfl
theorem sz_57 : szOf P 57 = some 17 := by kernel_rfl
theorem sz_65 : szOf P 65 = some 8 := by kernel_rfl
theorem sz_138 : szOf P 138 = some 3 := by kernel_rfl
theorem sz_182 : szOf P 182 = some 7 := by kernel_rfl
@[simp] theorem beql_4 (H : T OB) (q a b : Bool) : rdBin P H .eql 4 q (some (.bool a)) (some (.bool b)) = some (.bool (a == b)) := by cases q <;> cases a <;> cases b <;> kernel_rfl
theorem stpF : type_of% (And.intro @oneCell_int (And.intro @oneCell_str (And.intro @oneCell_bool (And.intro @oneCell_row (And.intro @oneCell_ep (And.intro @oneCell_nilp (And.intro @optK_some (And.intro @ldV_int (And.intro @ldV_str (And.intro @ldV_bool (And.intro @ldV_row (And.intro @ldV_ep (And.intro @ldV_nilp (And.intro @rdBin_add (And.intro @rdBin_sub (And.intro @rdBin_mul (And.intro @rdBin_lss (And.intro @rdBin_leq (And.intro @rdBin_gtr (And.intro @rdBin_geq (And.intro @rdBin_eql (And.intro @rdBin_neq (And.intro @rdBin_seql (And.intro @rdBin_sneq (And.intro @unV_not (And.intro @bvK_bool (And.intro @bK_true (And.intro @bK_false (And.intro @Bool.not_true (And.intro @Bool.not_false (And.intro @Bool.not_not (And.intro @rdNil_ep (And.intro @rdNil_ptr (And.intro @oneCell_sl (And.intro @ldV_sl (And.intro @vEq_self (And.intro @Int.cast_ofNat_Int (And.intro @decide_true (And.intro @decide_false (And.intro @Bool.and_self (And.intro @fa_31_0 (And.intro @fa_31_1 (And.intro @fa_31_2 (And.intro @fa_44_0 (And.intro @fa_44_1 (And.intro @fa_44_2 (And.intro @fa_44_3 (And.intro @fa_44_4 (And.intro @fa_44_5 (And.intro @fa_47_0 (And.intro @fa_47_1 (And.intro @fa_47_2 (And.intro @fa_47_3 (And.intro @fa_52_0 (And.intro @fa_52_1 (And.intro @fa_52_2 (And.intro @fa_55_0 (And.intro @fa_55_1 (And.intro @fa_57_0 (And.intro @fa_57_1 (And.intro @fa_57_2 (And.intro @fa_57_3 (And.intro @fa_57_4 (And.intro @fa_57_5 (And.intro @fa_65_0 (And.intro @fa_65_1 (And.intro @fa_65_2 (And.intro @fa_116_0 (And.intro @fa_116_1 (And.intro @fa_138_0 (And.intro @fa_138_1 (And.intro @fa_138_2 (And.intro @fp_31_0 (And.intro @fp_31_1 (And.intro @fp_31_2 (And.intro @fp_31_3 (And.intro @fp_44_0 (And.intro @fp_44_1 (And.intro @fp_44_2 (And.intro @fp_44_3 (And.intro @fp_44_4 (And.intro @fp_44_5 (And.intro @fp_47_0 (And.intro @fp_47_1 (And.intro @fp_47_2 (And.intro @fp_47_3 (And.intro @fp_55_0 (And.intro @fp_55_1 (And.intro @fp_57_0 (And.intro @fp_57_1 (And.intro @fp_57_2 (And.intro @fp_57_3 (And.intro @fp_57_4 (And.intro @fp_57_5 (And.intro @fp_65_0 (And.intro @fp_65_1 (And.intro @fp_65_2 (And.intro @fp_116_0 (And.intro @fp_116_1 (And.intro @fp_138_0 (And.intro @fp_138_1 (And.intro @fp_138_2 (And.intro @ld_2 (And.intro @ld_3 (And.intro @ld_4 (And.intro @ld_9 (And.intro @ld_24 (And.intro @ld_29 (And.intro @ld_31 (And.intro @ld_41 (And.intro @ld_42 (And.intro @ld_44 (And.intro @ld_47 (And.intro @ld_48 (And.intro @ld_49 (And.intro @ld_50 (And.intro @ld_52 (And.intro @ld_53 (And.intro @ld_55 (And.intro @ld_57 (And.intro @ld_65 (And.intro @ld_138 (And.intro @ld_182 (And.intro @len_9 (And.intro @len_24 (And.intro @lenS_24 (And.intro @lenN_24 (And.intro @len_29 (And.intro @lenS_29 (And.intro @lenN_29 (And.intro @len_41 (And.intro @lenS_41 (And.intro @lenN_41 (And.intro @len_42 (And.intro @lenS_42 (And.intro @lenN_42 (And.intro @len_48 (And.intro @lenS_48 (And.intro @lenN_48 (And.intro @len_49 (And.intro @lenS_49 (And.intro @lenN_49 (And.intro @len_50 (And.intro @lenS_50 (And.intro @lenN_50 (And.intro @len_53 (And.intro @lenS_53 (And.intro @lenN_53 (And.intro @len_120 (And.intro @lenS_120 (And.intro @lenN_120 @beql_4))))))))))))))))))))))))))))))))))))))))))))))))))))))))))))))))))))))))))))))))))))))))))))))))))))))))))))))))))))))))))))))))))))))))))))))))))))))) := And.intro @oneCell_int (And.intro @oneCell_str (And.intro @oneCell_bool (And.intro @oneCell_row (And.intro @oneCell_ep (And.intro @oneCell_nilp (And.intro @optK_some (And.intro @ldV_int (And.intro @ldV_str (And.intro @ldV_bool (And.intro @ldV_row (And.intro @ldV_ep (And.intro @ldV_nilp (And.intro @rdBin_add (And.intro @rdBin_sub (And.intro @rdBin_mul (And.intro @rdBin_lss (And.intro @rdBin_leq (And.intro @rdBin_gtr (And.intro @rdBin_geq (And.intro @rdBin_eql (And.intro @rdBin_neq (And.intro @rdBin_seql (And.intro @rdBin_sneq (And.intro @unV_not (And.intro @bvK_bool (And.intro @bK_true (And.intro @bK_false (And.intro @Bool.not_true (And.intro @Bool.not_false (And.intro @Bool.not_not (And.intro @rdNil_ep (And.intro @rdNil_ptr (And.intro @oneCell_sl (And.intro @ldV_sl (And.intro @vEq_self (And.intro @Int.cast_ofNat_Int (And.intro @decide_true (And.intro @decide_false (And.intro @Bool.and_self (And.intro @fa_31_0 (And.intro @fa_31_1 (And.intro @fa_31_2 (And.intro @fa_44_0 (And.intro @fa_44_1 (And.intro @fa_44_2 (And.intro @fa_44_3 (And.intro @fa_44_4 (And.intro @fa_44_5 (And.intro @fa_47_0 (And.intro @fa_47_1 (And.intro @fa_47_2 (And.intro @fa_47_3 (And.intro @fa_52_0 (And.intro @fa_52_1 (And.intro @fa_52_2 (And.intro @fa_55_0 (And.intro @fa_55_1 (And.intro @fa_57_0 (And.intro @fa_57_1 (And.intro @fa_57_2 (And.intro @fa_57_3 (And.intro @fa_57_4 (And.intro @fa_57_5 (And.intro @fa_65_0 (And.intro @fa_65_1 (And.intro @fa_65_2 (And.intro @fa_116_0 (And.intro @fa_116_1 (And.intro @fa_138_0 (And.intro @fa_138_1 (And.intro @fa_138_2 (And.intro @fp_31_0 (And.intro @fp_31_1 (And.intro @fp_31_2 (And.intro @fp_31_3 (And.intro @fp_44_0 (And.intro @fp_44_1 (And.intro @fp_44_2 (And.intro @fp_44_3 (And.intro @fp_44_4 (And.intro @fp_44_5 (And.intro @fp_47_0 (And.intro @fp_47_1 (And.intro @fp_47_2 (And.intro @fp_47_3 (And.intro @fp_55_0 (And.intro @fp_55_1 (And.intro @fp_57_0 (And.intro @fp_57_1 (And.intro @fp_57_2 (And.intro @fp_57_3 (And.intro @fp_57_4 (And.intro @fp_57_5 (And.intro @fp_65_0 (And.intro @fp_65_1 (And.intro @fp_65_2 (And.intro @fp_116_0 (And.intro @fp_116_1 (And.intro @fp_138_0 (And.intro @fp_138_1 (And.intro @fp_138_2 (And.intro @ld_2 (And.intro @ld_3 (And.intro @ld_4 (And.intro @ld_9 (And.intro @ld_24 (And.intro @ld_29 (And.intro @ld_31 (And.intro @ld_41 (And.intro @ld_42 (And.intro @ld_44 (And.intro @ld_47 (And.intro @ld_48 (And.intro @ld_49 (And.intro @ld_50 (And.intro @ld_52 (And.intro @ld_53 (And.intro @ld_55 (And.intro @ld_57 (And.intro @ld_65 (And.intro @ld_138 (And.intro @ld_182 (And.intro @len_9 (And.intro @len_24 (And.intro @lenS_24 (And.intro @lenN_24 (And.intro @len_29 (And.intro @lenS_29 (And.intro @lenN_29 (And.intro @len_41 (And.intro @lenS_41 (And.intro @lenN_41 (And.intro @len_42 (And.intro @lenS_42 (And.intro @lenN_42 (And.intro @len_48 (And.intro @lenS_48 (And.intro @lenN_48 (And.intro @len_49 (And.intro @lenS_49 (And.intro @lenN_49 (And.intro @len_50 (And.intro @lenS_50 (And.intro @lenN_50 (And.intro @len_53 (And.intro @lenS_53 (And.intro @lenN_53 (And.intro @len_120 (And.intro @lenS_120 (And.intro @lenN_120 @beql_4))))))))))))))))))))))))))))))))))))))))))))))))))))))))))))))))))))))))))))))))))))))))))))))))))))))))))))))))))))))))))))))))))))))))))))))))))))))
end
end Go.Proofs.YthjhonhhbddhkaaGreatDoor
