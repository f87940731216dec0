/- The evaluator is right: what a closed run comes to in it, the model's call comes to. -/
import Derived.Test.YtgfiajgofihpnaaEvM
namespace Go.Ev
noncomputable section
open Go.RowKit (Below)
variable {P : Program} {W w w' : World} {f0 fn : FuncId} {cs frs : List Frame} {r : Res} {fr fr' : Frame} {φ φ' : Phi} {H H' : T OB} {nx nx' nt lo hi : Nat} {tm : T Value} {tmps : Array Value} {ops : Array Oper}
  {stk : List Fr} {todo k : List Item}

/-- An operation that is no reader, in the model. -/
theorem eff_run {o : Oper} {ops : Array Oper} {i : Nat} {rest : List Nat} {v : Value} {H' : T OB} {nx' : Nat} (ho : ops[i]? = some o) (hw : Region.wanted o (yielded ops tmps) = true)
    (he : EfOk P W φ H w ((execOp (evalA tmps) o).run P w) v H' nx') :
    ∃ φ' v' w', step P (lone (mkF fn tmps (.inRegion ops (i :: rest) :: k)) (frs ++ cs) w) = .next (lone (mkF fn (putA tmps o.dst v') (.inRegion ops rest :: k)) (frs ++ cs) w') ∧
      VR φ' v v' ∧ φ.le φ' ∧ HR P W φ' (hp H') w' ∧ φ'.length = nx' ∧ Keep φ φ' (hp H) (hp H') := by
  obtain ⟨φ', v', w', x, hr, hx, h1, h2, h3, h4, h5⟩ := he
  refine ⟨φ', v', w', ?_, h1, h2, h3, h4, h5⟩
  rcases hx with rfl | ⟨rfl, rfl⟩
  · exact step_value ho hw hr
  · exact step_skipv ho hw hr

theorem noMask {l : List Operand} : ∀ t, Operand.tmp t ∈ l → ¬ (fun (_ : Nat) => False) t := fun _ _ h => h

/-! a region without a draw -/
theorem stepR_ok (c : Cx P W f0 φ H nx lo fn stk frs w) (hsz : tmps.size = nt) (htr : TRm φ (fun _ => False) tm tmps) (l : List Nat) :
    RO P W f0 cs (stepR P fn nt tm ops l k stk H nx) (mkF fn tmps (.inRegion ops l :: k)) frs w := by
  unfold stepR
  cases l with
  | nil => exact RO.steps (.one (step_region_end (b := mkF fn #[] []) (a := ⟨tmps, []⟩))) (c.go ⟨hsz, rfl, htr⟩)
  | cons i rest =>
    refine RO.optK fun o ho => ?_
    unfold wantR
    refine RO.optK fun b hb => ?_
    have hw : Region.wanted o (yielded ops tmps) = b := wanted_of htr (fun _ _ _ _ h => h) hb
    have hE : EvR φ tm (evalA tmps) o.op.operands.toList := EvR_of htr noMask
    refine RO.bK (fun hbt => ?_) (fun hbf => ?_)
    · subst hbt
      unfold doR
      refine RO.bK (fun hrd => RO.optK fun v hv => ?_) (fun hrd => ?_)
      · obtain ⟨v', h1, h2⟩ := rd_sound c.hH hE hv
        unfold putR
        refine RO.putK fun hd => RO.steps (.one (step_value ho hw h2)) (c.go ⟨by rw [putA_size]; exact hsz, rfl, ?_⟩)
        exact htr.put (fun d h => by rw [hsz]; exact hd d h) h1 fun t h _ => h
      · cases he : ef P H nx tm o with
        | bad => trivial
        | val v H' nx' =>
          obtain ⟨φ', v', w', hs, h1, h2, h3, h4, h5⟩ := eff_run (fn := fn) (k := k) (cs := cs) (frs := frs) (rest := rest) ho hw (ef_sound c.hH c.hnx hE he)
          have hn : nx ≤ nx' := by have := le_len h2 h5; rw [c.hnx, h4] at this; exact this
          show RO P W f0 cs (putR fn nt tm ops rest k stk H' nx' o.dst v) _ frs w
          unfold putR
          refine RO.putK fun hd => RO.steps (.one hs) ((c.next h2 (fun k _ q => h5 k q) h3 h4 hn).go ⟨by rw [putA_size]; exact hsz, rfl, ?_⟩)
          exact (htr.mono h2).put (fun d h => by rw [hsz]; exact hd d h) h1 fun t h _ => h
        | call g args =>
          obtain ⟨args', h1, hok, h2⟩ := ef_call hE he
          exact enter_ok c h1 (f := ⟨fn, nt, tm, .inRegion ops (i :: rest) :: k, none⟩) rfl (tmps := tmps) (todo := .inRegion ops (i :: rest) :: k) ⟨hsz, rfl, htr⟩ (.one (step_enter ho hw (h2 w)))
    · subst hbf
      unfold putR
      refine RO.putK fun hd => RO.steps (.one (step_not ho hw)) (c.go ⟨by rw [putA_size]; exact hsz, rfl, ?_⟩)
      exact htr.put (fun d h => by rw [hsz]; exact hd d h) (.flat _ rfl) fun t h _ => h

/-! a region with a draw -/
theorem stepD_ok (c : Cx P W f0 φ H nx lo fn stk frs w) (hsz : tmps.size = nt) {pl : List (Nat × List Nat)} {π done lds : List Nat} {κ : Nat → Nat}
    (hD : DrawC P φ H tm tmps ops done lds pl π κ lo nx) (hL : LoadP P H tm ops done π) :
    RO P W f0 cs (stepD P fn nt tm ops pl k stk H nx) (mkF fn tmps (.inRegion ops π :: k)) frs w := by
  unfold stepD
  cases pl with
  | nil =>
    obtain ⟨φ', tmps', w', π', hs, hle, hH', hlen, hk, hD', _, hz, hn⟩ := run_pend (fn := fn) (k := k) (cs := frs ++ cs) π φ tmps w c.hH hD hL
    have := hD'.last hn
    subst this
    have c' : Cx P W f0 φ' H nx lo fn stk frs w' := c.next hle (fun j hj q => ⟨hk j hj q, rfl⟩) hH' (hlen.trans c.hnx) (Nat.le_refl _)
    refine RO.steps (hs.trans (.one (step_region_end (b := mkF fn #[] []) (a := ⟨tmps', []⟩)))) (c'.go ⟨hz.trans hsz, rfl, ?_⟩)
    exact fun t v hv => (hD'.tr t v hv).imp (fun ⟨p, hp, _⟩ => absurd hp List.not_mem_nil) id
  | cons x rest =>
    obtain ⟨i, chk⟩ := x
    obtain ⟨o, ho, hni, hrdy, hpr, hpe⟩ := okPlan_cons hD.plan
    show RO P W f0 cs (Ev.optK ops[i]? (fun o => wantD P fn nt tm ops i chk rest k stk H nx o (wantedO tm ops o)) (.bad "no op")) _ frs w
    rw [ho]
    show RO P W f0 cs (wantD P fn nt tm ops i chk rest k stk H nx o (wantedO tm ops o)) _ frs w
    unfold wantD
    refine RO.optK fun b hb => ?_
    -- given ahead
    have ahead : ∀ {φ' : Phi} {H' : T OB} {nx' : Nat} {κ' : Nat → Nat} {u : Value}, (isRd o.op || isAl o.op) = true → (∀ d, o.dst = some d → d < nt) → φ.le φ' →
        (∀ k, k < nx → φ[k]? = some none → φ'[k]? = some none ∧ hp H' k = hp H k) → (∀ p, p ≠ i → κ' p = κ p) → nx ≤ nx' → HR P W φ' (hp H') w → φ'.length = nx' →
        Prom P φ' H' (tmPut tm o.dst u) ops κ' lo nx' i o → (isAl o.op = true → nx ≤ κ' i) → (∀ k ob, hp H k = some ob → hp H' k = some ob) →
        (isLd o.op = true → wantedO (tmPut tm o.dst u) ops o = some true → rd P H' (tmPut tm o.dst u) o = some u) →
        RO P W f0 cs (.go ⟨⟨fn, nt, tmPut tm o.dst u, k, some (ops, rest)⟩, stk, H', nx'⟩) (mkF fn tmps (.inRegion ops π :: k)) frs w := by
      intro φ' H' nx' κ' u hc hd hle hk hκ hn hH' hl hprom hfresh hext hself
      have c' : Cx P W f0 φ' H' nx' lo fn stk frs w := c.next hle (fun j hj q => hk j (by have := c.hlo; omega) q) hH' hl hn
      refine c'.go ⟨hsz, π, i :: done, _, κ', rfl, hD.take ho hni hrdy (hpr hc) (fun p hp => ?_) (fun hl => ?_) hle hk hκ hn (fun d h => by rw [hsz]; exact hd d h) hprom hfresh, hL.take hD.sa hD.ready ho hni hext hself⟩
      · split
        · exact List.mem_cons_of_mem _ hp
        · exact hp
      · rw [if_pos hl]; simp
    have hself : ∀ {d : Tmp}, o.dst = some d → d ∉ o.looksAt ops := fun hd => not_self hD.sa hD.ac ho hd
    have e1 : ∀ u, wantedO (tmPut tm o.dst u) ops o = wantedO tm ops o := fun u => stable_w (i := i) (p := i) fun d hd => hself hd
    have e2 : ∀ u H, rd P H (tmPut tm o.dst u) o = rd P H tm o := fun u H => stable_rd fun d hd => hself hd
    have e3 : ∀ u d, o.dst = some d → (tmPut tm o.dst u).get (bits d) = some u := fun u d hd => by rw [get_tmPut, if_pos hd]
    -- its turn has come
    have turn : (isRd o.op || isAl o.op) = false → ∃ φ1 tmps1 w1 l, Steps P (lone (mkF fn tmps (.inRegion ops π :: k)) (frs ++ cs) w) (lone (mkF fn tmps1 (.inRegion ops (i :: l) :: k)) (frs ++ cs) w1) ∧
        Cx P W f0 φ1 H nx lo fn stk frs w1 ∧ DrawC P φ1 H tm tmps1 ops done lds ((i, chk) :: rest) (i :: l) κ lo nx ∧ tmps1.size = nt ∧
        Region.wanted o (yielded ops tmps1) = b ∧ EvR φ1 tm (evalA tmps1) o.op.operands.toList := by
      intro hc
      obtain ⟨φ1, tmps1, w1, π', hs, hle, hH1, hlen, hk, hD1, _, hz, hn⟩ := run_pend (fn := fn) (k := k) (cs := frs ++ cs) π φ tmps w c.hH hD hL
      obtain ⟨l, rfl⟩ := hD1.head ho hc hn
      exact ⟨φ1, tmps1, w1, l, hs, c.next hle (fun j hj q => ⟨hk j hj q, rfl⟩) hH1 (hlen.trans c.hnx) (Nat.le_refl _), hD1, hz.trans hsz,
        wanted_of hD1.tr (fun p hp d hd => head_free hD1.sa hD1.lin ho (looks_guard hp hd)) hb, EvR_of hD1.tr fun t ht => head_free hD1.sa hD1.lin ho (looks_op ht)⟩
    refine RO.bK (fun hbt => ?_) (fun hbf => ?_)
    · subst hbt
      unfold doD
      refine RO.bK (fun hrd => RO.optK fun v hv => ?_) (fun hrd => RO.bK (fun hal => ?_) (fun hal => ?_))
      · unfold putP
        refine RO.putK fun hd => ahead (u := v) (κ' := κ) (by rw [hrd]; rfl) hd φ.le_refl (fun k _ q => ⟨q, rfl⟩) (fun _ _ => rfl) (Nat.le_refl _) c.hH c.hnx
          (.inr (.inl ⟨(e1 v).trans hb, hrd, v, e3 v, fun _ => (e2 v H).trans hv⟩)) (fun hal => ?_) (fun _ _ h => h) (fun _ _ => (e2 v H).trans hv)
        obtain ⟨e, he⟩ := isAl_inv hal
        rw [he] at hrd
        cases hrd
      · obtain ⟨e, he⟩ := isAl_inv hal
        have hef : ef P H nx tm o = efAlloc P H nx e := by unfold ef; simp only [he]
        rw [hef]
        unfold efAlloc
        cases hz : zeroC P e with
        | none => trivial
        | some l =>
          rw [optK_some, newK_eq]
          show RO P W f0 cs (putP fn nt tm ops rest k stk (set H (bits nx) (some (newOB l e))) (nx + 1) o.dst (ptrAt nx)) _ frs w
          unfold putP
          have hnone : hp H nx = none := by
            cases hx : hp H nx with
            | none => rfl
            | some ob => have := c.hH.dom nx ob hx; have := c.hnx; omega
          have hnx := c.hnx
          subst hnx
          refine RO.putK fun hd => ahead (u := ptrAt φ.length) (κ' := fun p => if p = i then φ.length else κ p) (φ' := φ ++ [none]) (by rw [hal]; simp) hd (le_push φ _) (fun j hj q => ⟨?_, ?_⟩) (fun p hp => if_neg hp) (Nat.le_succ _) ?_ (by simp)
            (.inr (.inr ⟨(e1 _).trans hb, e, l, he, hz, ?_, ?_, ?_, ?_, fun d hd => ?_⟩)) (fun _ => ?_) (fun j ob hj => ?_) (fun hl => ?_)
          · rw [List.getElem?_append_left hj]; exact q
          · rw [hp_set, upd_other _ (by omega)]
          · rw [hp_set]; exact c.hH.pend _
          · dsimp only; rw [if_pos rfl]; exact get_push φ _
          · dsimp only; rw [if_pos rfl, hp_set, upd_same]
          · dsimp only; rw [if_pos rfl]; exact c.hlo
          · dsimp only; rw [if_pos rfl]; omega
          · dsimp only; rw [if_pos rfl]; exact e3 _ d hd
          · rw [if_pos rfl]; exact Nat.le_refl _
          · rw [hp_set]
            by_cases hjn : j = φ.length
            · subst hjn; rw [hnone] at hj; cases hj
            · rw [upd_other _ hjn]; exact hj
          · rw [he] at hl; cases hl
      · have hc : (isRd o.op || isAl o.op) = false := by rw [hrd, hal]; rfl
        obtain ⟨φ1, tmps1, w1, l, hs, c1, hD1, hsz1, hw1, hE1⟩ := turn hc
        cases he : ef P H nx tm o with
        | bad => trivial
        | val v H' nx' =>
          obtain ⟨φ2, v', w2, hs2, h1, h2, h3, h4, h5⟩ := eff_run (fn := fn) (k := k) (cs := cs) (frs := frs) (rest := l) ho hw1 (ef_sound c1.hH c1.hnx hE1 he)
          have hn : nx ≤ nx' := by have := le_len h2 h5; rw [c1.hnx, h4] at this; exact this
          show RO P W f0 cs (putE P fn nt tm ops chk rest k stk H' nx' o.dst v) _ frs w
          unfold putE
          refine RO.putK fun hd => ?_
          unfold goE
          refine RO.bK (fun hchk => ?_) (fun _ => trivial)
          obtain ⟨h6, h7⟩ := hD1.finish ho hc h2 (fun j _ q => h5 j q) hn h1 (fun d h => by rw [hsz1]; exact hd d h) hchk
          exact RO.steps (hs.trans (.one hs2)) ((c1.next h2 (fun j _ q => h5 j q) h3 h4 hn).go ⟨by rw [putA_size]; exact hsz1, _, _, _, _, rfl, h6, h7⟩)
        | call g args =>
          obtain ⟨args', h1, hok, h2⟩ := ef_call hE1 he
          show RO P W f0 cs (enterK P g args (fun n => .go ⟨n, ⟨fn, nt, tm, k, some (ops, (i, chk) :: rest)⟩ :: stk, H, nx⟩) (.bad "enter")) _ frs w
          have h3 := enter_ok (cs := cs) (fr := mkF fn tmps1 (.inRegion ops (i :: l) :: k)) (z := "enter") c1 h1 (f := ⟨fn, nt, tm, k, some (ops, (i, chk) :: rest)⟩) rfl (tmps := tmps1) (todo := .inRegion ops (i :: l) :: k)
            ⟨hsz1, i, chk, rest, l, done, lds, κ, o, rfl, rfl, ho, hc, hD1⟩ (.one (step_enter ho hw1 (h2 w1)))
          exact RO.steps hs h3
    · subst hbf
      unfold putE
      refine RO.putK fun hd => ?_
      unfold goE
      refine RO.bK (fun hchk => ?_) (fun _ => trivial)
      cases hc : (isRd o.op || isAl o.op) with
      | true =>
        refine ahead (u := undef) (κ' := fun p => if p = i then nx else κ p) hc hd φ.le_refl (fun k _ q => ⟨q, rfl⟩) (fun p hp => if_neg hp) (Nat.le_refl _) c.hH c.hnx
          (.inl ⟨(e1 _).trans hb, e3 _⟩) (fun _ => ?_) (fun _ _ h => h) (fun _ hw => ?_)
        · rw [if_pos rfl]; exact Nat.le_refl _
        · rw [e1, hb] at hw; cases hw
      | false =>
        obtain ⟨φ1, tmps1, w1, l, hs, c1, hD1, hsz1, hw1, _⟩ := turn hc
        obtain ⟨h6, h7⟩ := hD1.finish (H' := H) ho hc φ1.le_refl (fun j _ q => ⟨q, rfl⟩) (Nat.le_refl _) (.flat undef rfl) (fun d h => by rw [hsz1]; exact hd d h) hchk
        exact RO.steps (hs.trans (.one (step_not ho hw1))) (c1.go ⟨by rw [putA_size]; exact hsz1, _, _, _, _, rfl, h6, h7⟩)

/-! all else -/
theorem stepC_ok (c : Cx P W f0 φ H nx lo fn stk frs w) (hsz : tmps.size = nt) (htr : TRm φ (fun _ => False) tm tmps) (cd : Code) :
    RO P W f0 cs (stepC P fn nt tm stk H nx cd k) (mkF fn tmps (.code cd :: k)) frs w := by
  have to : ∀ {k' : List Item}, step P (lone (mkF fn tmps (.code cd :: k)) (frs ++ cs) w) = .next (lone (mkF fn tmps k') (frs ++ cs) w) →
      RO P W f0 cs (toT fn nt tm stk H nx k') (mkF fn tmps (.code cd :: k)) frs w := fun hs => RO.steps (.one hs) (c.go ⟨hsz, rfl, htr⟩)
  unfold stepC
  cases cd with
  | ret => exact leave_ok c htr (.inr ⟨k, rfl⟩)
  | skip => exact to (step_skip (b := mkF fn #[] []) (a := ⟨tmps, []⟩))
  | label l => exact to (step_label (b := mkF fn #[] []) (a := ⟨tmps, []⟩))
  | seq a b => exact to (step_seq (b := mkF fn #[] []) (a := ⟨tmps, []⟩))
  | cond x a b =>
    show RO P W f0 cs (boolK (eva tm x) (toT fn nt tm stk H nx (.code a :: k)) (toT fn nt tm stk H nx (.code b :: k)) (.bad "cond")) _ frs w
    unfold boolK
    split
    · rename_i t hx
      have he : Act.eval ⟨tmps, []⟩ x = .bool t := ((EvR_of htr (l := [x]) noMask) x (by simp) _ hx).eq_of_flat rfl
      have hs := step_cond (P := P) (b := mkF fn #[] []) (a := ⟨tmps, []⟩) (k := k) (cs := frs ++ cs) (w := w) (x := a) (y := b) he
      cases t with
      | true => exact to hs
      | false => exact to hs
    · trivial
  | block id body => exact to (step_block (b := mkF fn #[] []) (a := ⟨tmps, []⟩))
  | loop body => exact to (step_loop (b := mkF fn #[] []) (a := ⟨tmps, []⟩))
  | scope body => exact to (step_scope (b := mkF fn #[] []) (a := ⟨tmps, []⟩))
  | exit id => exact RO.optK fun k' hk => to (step_exit (b := mkF fn #[] []) (a := ⟨tmps, []⟩) hk)
  | goto l => exact RO.optK fun k' hk => to (step_goto (b := mkF fn #[] []) (a := ⟨tmps, []⟩) hk)
  | region id ops draw =>
    show RO P W f0 cs (regT P fn nt tm stk H nx ops draw k) _ frs w
    unfold regT
    cases draw with
    | false => exact to (step_region (b := mkF fn #[] []) (a := ⟨tmps, []⟩))
    | true =>
      show RO P W f0 cs (bif P.follows .mixedOrders then Ev.optK (planOf ops) (fun pl => .go ⟨⟨fn, nt, tm, k, some (ops, pl)⟩, stk, H, nx⟩) (.bad "plan") else .bad "mixed") _ frs w
      cases hm : P.follows .mixedOrders with
      | false => trivial
      | true =>
        refine RO.optK fun pl hpl => ?_
        have hs := step_region_draw (P := P) (b := mkF fn #[] []) (a := ⟨tmps, []⟩) (k := k) (cs := frs ++ cs) (w := w) (ops := ops) (id := id)
        rw [hm] at hs
        have c' : Cx P W f0 φ H nx lo fn stk frs w.drew := ⟨c.hH.drew, c.hnx, c.hlo, c.hS, c.hb⟩
        obtain ⟨h1, h2⟩ := DrawC.start (P := P) (φ := φ) (H := H) hpl (w.tape w.drawn (.order (mkF fn #[] []).fn id)) htr lo nx
        exact RO.steps (.one hs) (c'.go (k := k) (dr := some (ops, pl)) (todo := .inRegion ops (Region.schedule true ops (w.tape w.drawn (.order (mkF fn #[] []).fn id))) :: k) ⟨hsz, _, _, _, _, rfl, h1, h2⟩)
  | _ => trivial

theorem stepI_ok (c : Cx P W f0 φ H nx lo fn stk frs w) (hsz : tmps.size = nt) (htr : TRm φ (fun _ => False) tm tmps) (it : Item) :
    RO P W f0 cs (stepI P fn nt tm stk H nx it k) (mkF fn tmps (it :: k)) frs w := by
  have to : ∀ {k' : List Item}, step P (lone (mkF fn tmps (it :: k)) (frs ++ cs) w) = .next (lone (mkF fn tmps k') (frs ++ cs) w) →
      RO P W f0 cs (toT fn nt tm stk H nx k') (mkF fn tmps (it :: k)) frs w := fun hs => RO.steps (.one hs) (c.go ⟨hsz, rfl, htr⟩)
  unfold stepI
  cases it with
  | code cd => exact stepC_ok c hsz htr cd
  | inBlock id => exact to (step_inBlock (b := mkF fn #[] []) (a := ⟨tmps, []⟩))
  | inScope body => exact to (step_inScope (b := mkF fn #[] []) (a := ⟨tmps, []⟩))
  | inLoop body => exact to (step_inLoop (b := mkF fn #[] []) (a := ⟨tmps, []⟩))
  | inRegion ops l => exact stepR_ok c hsz htr l
  | _ => trivial

theorem step_ok {s : St} (h : MR P W f0 s fr frs w) : RO P W f0 cs (stepE P s) fr frs w := by
  obtain ⟨φ, tmps, todo, lo, rfl, c, hf⟩ := h
  obtain ⟨⟨fn, nt, tm, ftodo, dr⟩, stk, H, nx⟩ := s
  obtain ⟨hsz, hd⟩ := hf
  cases dr with
  | none =>
    obtain ⟨ht, htr⟩ := hd
    have ht : todo = ftodo := ht
    subst ht
    show RO P W f0 cs (stepT P fn nt tm stk H nx todo) _ frs w
    unfold stepT
    cases todo with
    | nil => exact leave_ok c htr (.inl rfl)
    | cons it k => exact stepI_ok c hsz htr it
  | some d =>
    obtain ⟨ops, pl⟩ := d
    obtain ⟨π, done, lds, κ, ht, hD, hL⟩ := hd
    subst ht
    exact stepD_ok c hsz hD hL

theorem run_succ (n : Nat) (s : St) : run P (n + 1) s = Res.casesOn (motive := fun _ => Res) (stepE P s) (run P n) (fun v H => .done v H) (fun w => .bad w) := rfl

theorem run_ok : ∀ (n : Nat) (s : St) (fr : Frame) (frs : List Frame) (w : World), MR P W f0 s fr frs w → ∀ v H, run P n s = .done v H →
    ∃ fr' w' φ v', Steps P (lone fr (frs ++ cs) w) (lone fr' cs w') ∧ fr'.leaving P w' (.returned v') ∧ fr'.fn = f0 ∧ VR φ v v' ∧ Below W.heap.size W w'
  | 0, s, fr, frs, w, _, v, H, hr => by cases hr
  | n + 1, s, fr, frs, w, hm, v, H, hr => by
    have h := step_ok (cs := cs) hm
    rw [run_succ] at hr
    cases hs : stepE P s with
    | go s' =>
      rw [hs] at h hr
      obtain ⟨fr1, frs1, w1, h1, h2⟩ := h
      obtain ⟨fr', w', φ, v', h3, h4⟩ := run_ok n s' fr1 frs1 w1 h2 v H hr
      exact ⟨fr', w', φ, v', h1.trans h3, h4⟩
    | done v1 H1 =>
      rw [hs] at h hr
      have hr : Res.done v1 H1 = .done v H := hr
      cases hr
      obtain ⟨rfl, fr', w', φ, v', h1, h2⟩ := h
      exact ⟨fr', w', φ, v', h1, h2⟩
    | bad z => rw [hs] at hr; cases hr

/-- A call whose arguments hold no address: what it comes to in the evaluator, it comes to in the model, and below it all stays. -/
theorem calls_of_evals {n : Nat} {f : FuncId} {args : List Value} {v : Value} (hargs : ∀ x ∈ args, flat x = true) (hv : flat v = true) (h : evals P n f args = some v) (w : World) :
    Calls P f args.toArray w fun e w' => e = .returned v ∧ Below w.heap.size w w' := by
  intro cs
  unfold evals start enterK at h
  cases hf : P.funcs[f]? with
  | none => simp only [hf] at h; cases h
  | some fd =>
    cases hb : fd.body with
    | none => simp only [hf, hb] at h; cases h
    | some cd =>
      simp only [hf, hb] at h
      cases hn : Nat.ble args.length fd.ntmps with
      | false => rw [hn] at h; cases h
      | true =>
        rw [hn] at h
        have h : (match (fromLK args 0 .leaf fun tm => some (⟨⟨f, fd.ntmps, tm, [.code cd], none⟩, [], .leaf, 0⟩ : St)) with
          | some s => match run P n s with
            | .done v _ => some v
            | _ => none
          | none => none) = some v := h
        rw [fromLK_fromL] at h
        have hn := ble_le hn
        have hm : MR P w f ⟨⟨f, fd.ntmps, fromL args 0 .leaf, [.code cd], none⟩, [], .leaf, 0⟩ (Frame.enter P f args.toArray .normal) [] w := by
          refine ⟨[], _, _, 0, (by simp [Frame.enter, hf, hb, mkF] : Frame.enter P f args.toArray .normal = mkF f (args.toArray ++ Array.replicate (fd.ntmps - args.toArray.size) undef) [.code cd]), ⟨⟨.refl _ _, ?_, ?_, ?_, ?_, ?_⟩, rfl, Nat.le_refl _, .nil 0, rfl⟩, ?_, rfl, ?_⟩
          · intro k ob h; simp [hp] at h
          · intro k e h; simp at h
          · intro k k' n t el n' t' el' e e' h; simp at h
          · intro k n t el e h; simp [hp] at h
          · intro k n t el e h; simp [hp] at h
          · simp only [Array.size_append, List.size_toArray, Array.size_replicate]; omega
          · intro t v hv
            have hv : (fromL args 0 .leaf).get (bits t) = some v := hv
            rw [get_fromL] at hv
            split at hv
            · rename_i ht
              rw [Nat.sub_zero] at hv
              refine .inr ⟨v, ?_, .flat v (hargs v (List.mem_of_getElem? hv))⟩
              have : t < args.toArray.size := by simp; omega
              rw [Array.getElem?_append_left this]
              simpa using hv
            · rw [get_leaf] at hv; cases hv
        have h : (match run P n ⟨⟨f, fd.ntmps, fromL args 0 .leaf, [.code cd], none⟩, [], .leaf, 0⟩ with
            | .done v _ => some v
            | _ => none) = some v := h
        cases hr : run P n ⟨⟨f, fd.ntmps, fromL args 0 .leaf, [.code cd], none⟩, [], .leaf, 0⟩ with
        | go s => rw [hr] at h; cases h
        | bad z => rw [hr] at h; cases h
        | done v1 H1 =>
          rw [hr] at h
          cases h
          obtain ⟨fr', w', φ, v', h1, h2, h3, h4, h5⟩ := run_ok (cs := cs) n _ _ _ _ hm v H1 hr
          have := h4.eq_of_flat hv
          subst this
          exact ⟨.returned v', w', fr', ⟨rfl, h5⟩, h1, h3, h2⟩
end
end Go.Ev
