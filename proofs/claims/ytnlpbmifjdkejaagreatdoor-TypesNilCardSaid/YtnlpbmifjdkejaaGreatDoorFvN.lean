/- The evaluator is right: what a closed run comes to in it, the model's call comes to. -/
import Derived.Test.YtnlpbmifjdkejaaGreatDoorFvM
namespace Go.Ev
noncomputable section
open Go.RowKit (Below)
variable {P : Program} {W w w' : World} {f0 fn : FuncId} {cs frs : List Frame} {r : Res} {fr fr' : Frame} {φ φ' : Phi} {H H' : T OB} {nx nx' lo hi : Nat} {tm : T Value} {tmps : Array Value} {ops : Array Oper}
  {stk : List Fr} {todo k : List Item} {c : Cf} {ds : List Deferred} {fb : FB}

/-- An operation that is no reader, in the model. -/
theorem eff_run {o : Oper} {ops : Array Oper} {i : Nat} {rest : List Nat} {v : Value} {H' : T OB} {nx' : Nat} (ho : ops[i]? = some o) (hw : Region.wanted o (yielded ops tmps) = true)
    (he : EfOk P W φ H w ((execOp (evalA tmps) o).run P w) v H' nx') :
    ∃ φ' v' w', step P (lone (mkF fb tmps (.inRegion ops (i :: rest) :: k)) (frs ++ cs) w) = .next (lone (mkF fb (putA tmps o.dst v') (.inRegion ops rest :: k)) (frs ++ cs) w') ∧
      VR φ' v v' ∧ φ.le φ' ∧ HR P W φ' (hp H') w' ∧ φ'.length = nx' ∧ Keep φ φ' (hp H) (hp H') := by
  obtain ⟨φ', v', w', x, hr, hx, h1, h2, h3, h4, h5⟩ := he
  refine ⟨φ', v', w', ?_, h1, h2, h3, h4, h5⟩
  rcases hx with rfl | ⟨rfl, rfl⟩
  · exact step_value ho hw hr
  · exact step_skipv ho hw hr

theorem noMask {l : List Operand} : ∀ t, Operand.tmp t ∈ l → ¬ (fun (_ : Nat) => False) t := fun _ _ h => h

theorem rcv_normal {F : Frame} {cs : List Frame} (h : F.kind = .normal) : tryRecover F cs = none := by
  unfold tryRecover
  rw [h]
theorem rcv_deferred {F C : Frame} {cs : List Frame} (h : F.kind = .deferred) : tryRecover F (C :: cs) = (match C.mode with
    | .panicking ({ v, recovered := false, goexit := false } :: older) => some (v, { C with mode := .panicking ({ v, recovered := true } :: older) } :: cs)
    | _ => none) := by
  conv => lhs; unfold tryRecover
  rw [h]
  rfl

/-! a region without a draw -/
theorem stepR_ok : ∀ (l : List Nat) (φ : Phi) (H : T OB) (nx : Nat) (tm : T Value) (tmps : Array Value) (w : World), Cx P W f0 φ H nx lo c.fn stk frs w → tmps.size = c.nt → DsR P φ c.df ds →
    TRm φ (fun _ => False) tm tmps → RO P W f0 cs (stepR P c ops k stk l tm H nx) (mkF (fbOf c ds) tmps (.inRegion ops l :: k)) frs w
  | [], φ, H, nx, tm, tmps, w, x, hsz, hds, htr => RO.steps (.one (step_region_end (b := mkF (fbOf c ds) #[] []) (a := ⟨tmps, ds⟩))) (x.goN hsz hds htr)
  | i :: rest, φ, H, nx, tm, tmps, w, x, hsz, hds, htr => by
    show RO P W f0 cs (Ev.optK ops[i]? (opR P c ops i rest k stk (stepR P c ops k stk rest) tm H nx) (.bad "no op")) _ frs w
    refine RO.optK fun o ho => ?_
    unfold opR
    refine RO.optK fun b hb => ?_
    have hw : Region.wanted o (yielded ops tmps) = b := wanted_of htr (fun _ _ _ _ h => h) hb
    have hE : EvR P φ tm (evalA tmps) o.op.operands.toList := EvR_of x.hH.gl htr noMask
    have next : ∀ {φ' : Phi} {H' : T OB} {nx' : Nat} {w' : World} {v v' : Value},
        step P (lone (mkF (fbOf c ds) tmps (.inRegion ops (i :: rest) :: k)) (frs ++ cs) w) = .next (lone (mkF (fbOf c ds) (putA tmps o.dst v') (.inRegion ops rest :: k)) (frs ++ cs) w') →
        Cx P W f0 φ' H' nx' lo c.fn stk frs w' → φ.le φ' → VR φ' v v' →
        RO P W f0 cs (Ev.putK c.nt tm o.dst v (fun tm => stepR P c ops k stk rest tm H' nx') (.bad "put")) (mkF (fbOf c ds) tmps (.inRegion ops (i :: rest) :: k)) frs w := fun hs x' hle hv =>
      RO.putK fun hd => RO.steps (.one hs) (stepR_ok rest _ _ _ _ _ _ x' (by rw [putA_size]; exact hsz) (hds.mono hle) ((htr.mono hle).put (fun d h => by rw [hsz]; exact hd d h) hv fun t h _ => h))
    refine RO.bK (fun hbt => ?_) (fun hbf => ?_)
    · subst hbt
      unfold doR
      refine RO.bK (fun hrd => RO.optK fun v hv => ?_) (fun hrd => ?_)
      · obtain ⟨v', h1, h2⟩ := rd_sound x.hH hE hv
        exact next (step_value ho hw h2) x φ.le_refl h1
      · cases he : ef P H nx tm o with
        | bad => trivial
        | val v H' nx' =>
          obtain ⟨φ', v', w', hs, h1, h2, h3, h4, h5⟩ := eff_run (fb := fbOf c ds) (k := k) (cs := cs) (frs := frs) (rest := rest) ho hw (ef_sound x.hH x.hnx hE he)
          have hn : nx ≤ nx' := by have := le_len h2 h5; rw [x.hnx, h4] at this; exact this
          exact next hs (x.next h2 (fun k _ q => h5 k q) h3 h4 hn) h2 h1
        | call g args =>
          obtain ⟨args', h1, hok, h2⟩ := ef_call hE he
          exact enter_ok x (kd := false) h1 (f := ⟨c, tm, .inRegion ops (i :: rest) :: k, none, .run⟩) rfl (frS := mkF (fbOf c ds) tmps (.inRegion ops (i :: rest) :: k)) (.run hsz hds ⟨rfl, htr⟩) (.one (step_enter ho hw (h2 w)))
        | dfr g args =>
          obtain ⟨d', h1, h2⟩ := ef_dfr hE he
          show RO P W f0 cs (Ev.putK c.nt tm o.dst undef (fun tm => .go ⟨⟨⟨c.fn, c.nt, c.kd, (g, args) :: c.df⟩, tm, .inRegion ops rest :: k, none, .run⟩, stk, H, nx⟩) (.bad "put")) _ frs w
          refine RO.putK fun hd => RO.steps (.one (step_dfr ho hw (h2 w))) ?_
          exact Cx.goN (c := ⟨c.fn, c.nt, c.kd, (g, args) :: c.df⟩) (ds := d' :: ds) x (by rw [putA_size]; exact hsz) (.cons h1 hds) (htr.put (fun d h => by rw [hsz]; exact hd d h) (.flat _ rfl) fun t h _ => h)
        | pan v =>
          obtain ⟨v', h1, h2⟩ := ef_pan hE he
          exact RO.steps (.one (step_pan ho hw (h2 w))) (Cx.go (f := ⟨c, tm, [], none, .pan [(v, false)]⟩) x (.pan hsz hds (.cons h1 .nil) (.inl htr)))
        | rcv =>
          have h2 := ef_rcv (ρ := evalA tmps) he w
          have fin : ∀ {stk' : List Fr} {frs' : List Frame} {v v' : Value}, Cx P W f0 φ H nx lo c.fn stk' frs' w → VR φ v v' →
              step P (lone (mkF (fbOf c ds) tmps (.inRegion ops (i :: rest) :: k)) (frs ++ cs) w) = .next (lone (mkF (fbOf c ds) (putA tmps o.dst v') (.inRegion ops rest :: k)) (frs' ++ cs) w) →
              RO P W f0 cs (Ev.putK c.nt tm o.dst v (fun tm => .go ⟨⟨c, tm, .inRegion ops rest :: k, none, .run⟩, stk', H, nx⟩) (.bad "put")) (mkF (fbOf c ds) tmps (.inRegion ops (i :: rest) :: k)) frs w := fun x' hv hs =>
            RO.putK fun hd => RO.stepsG (.one hs) (fun _ _ h => by cases h) (x'.goN (by rw [putA_size]; exact hsz) hds (htr.put (fun d h => by rw [hsz]; exact hd d h) hv fun t h _ => h))
          show RO P W f0 cs (recK c.kd stk fun v stk => Ev.putK c.nt tm o.dst v (fun tm => .go ⟨⟨c, tm, .inRegion ops rest :: k, none, .run⟩, stk, H, nx⟩) (.bad "put")) _ frs w
          cases hkd : c.kd with
          | false => exact fin x (.flat .nilIface rfl) (step_rcv_none ho hw h2 (rcv_normal (by show kindOf c.kd = _; rw [hkd]; rfl)))
          | true =>
            have hk2 : (mkF (fbOf c ds) tmps (.inRegion ops (i :: rest) :: k)).kind = .deferred := by show kindOf c.kd = _; rw [hkd]; rfl
            cases hS : x.hS with
            | nil hi => trivial
            | @cons f frC lo' hi fs frs' hfC hlo' hrest =>
              have keep : ∀ {f' : Fr} {frC' : Frame}, f'.c.fn = f.c.fn → FrR P φ H true f' frC' lo' lo → Cx P W f0 φ H nx lo c.fn (f' :: fs) (frC' :: frs') w := fun he h =>
                ⟨x.hH, x.hnx, x.hlo, .cons h hlo' hrest, by have := x.hb; rw [botFn_push] at this ⊢; rw [he]; exact this⟩
              have none' : tryRecover (mkF (fbOf c ds) tmps (.inRegion ops (i :: rest) :: k)) (frC :: (frs' ++ cs)) = none → ∀ {f' : Fr}, f'.c.fn = f.c.fn → FrR P φ H true f' frC lo' lo →
                  RO P W f0 cs (Ev.putK c.nt tm o.dst .nilIface (fun tm => .go ⟨⟨c, tm, .inRegion ops rest :: k, none, .run⟩, f' :: fs, H, nx⟩) (.bad "put")) (mkF (fbOf c ds) tmps (.inRegion ops (i :: rest) :: k)) (frC :: frs') w := fun ht _ he h =>
                fin (keep he h) (.flat .nilIface rfl) (step_rcv_none ho hw h2 ht)
              cases hfC with
              | @run c2 tm2 todo2 dr2 tmps2 ds2 todo2' _ _ hsz2 hds2 h => exact none' (rcv_deferred hk2) (f' := ⟨c2, tm2, todo2, dr2, .run⟩) rfl (.run hsz2 hds2 h)
              | @ret c2 tm2 todo2 dr2 tmps2 ds2 todo2' _ _ hsz2 hds2 h => exact none' (rcv_deferred hk2) (f' := ⟨c2, tm2, todo2, dr2, .ret⟩) rfl (.ret hsz2 hds2 h)
              | @pan c2 tm2 todo2 dr2 tmps2 ds2 todo2' _ _ l chain hsz2 hds2 hch h =>
                cases hch with
                | nil => exact none' (rcv_deferred hk2) (f' := ⟨c2, tm2, todo2, dr2, .pan []⟩) rfl (.pan hsz2 hds2 .nil h)
                | @cons u u' b l l' hu hl =>
                  cases b with
                  | true => exact none' (rcv_deferred hk2) (f' := ⟨c2, tm2, todo2, dr2, .pan ((u, true) :: l)⟩) rfl (.pan hsz2 hds2 (.cons hu hl) h)
                  | false => exact fin (stk' := ⟨c2, tm2, todo2, dr2, .pan ((u, true) :: l)⟩ :: fs) (keep (f' := ⟨c2, tm2, todo2, dr2, .pan ((u, true) :: l)⟩) rfl (.pan hsz2 hds2 (.cons hu hl) h)) hu (step_rcv_some ho hw h2 (rcv_deferred hk2))
    · subst hbf
      exact next (step_not ho hw) x φ.le_refl (.flat _ rfl)

/-! a region with a draw -/
theorem stepD_ok : ∀ (pl : List (Nat × List Nat)) (φ : Phi) (H : T OB) (nx : Nat) (tm : T Value) (tmps : Array Value) (w : World) (π done lds : List Nat) (κ : Nat → Nat),
    Cx P W f0 φ H nx lo c.fn stk frs w → tmps.size = c.nt → DsR P φ c.df ds → DrawC P φ H tm tmps ops done lds pl π κ lo nx → LoadP P H tm ops done π →
    RO P W f0 cs (stepD P c ops k stk pl tm H nx) (mkF (fbOf c ds) tmps (.inRegion ops π :: k)) frs w
  | [], φ, H, nx, tm, tmps, w, π, done, lds, κ, x, hsz, hds, hD, hL => by
    obtain ⟨φ', tmps', w', π', hs, hle, hH', hlen, hk, hD', _, hz, hn⟩ := run_pend (fn := fbOf c ds) (k := k) (cs := frs ++ cs) π φ tmps w x.hH hD hL
    have := hD'.last hn
    subst this
    have x' : Cx P W f0 φ' H nx lo c.fn stk frs w' := x.next hle (fun j hj q => ⟨hk j hj q, rfl⟩) hH' (hlen.trans x.hnx) (Nat.le_refl _)
    refine RO.steps (hs.trans (.one (step_region_end (b := mkF (fbOf c ds) #[] []) (a := ⟨tmps', ds⟩)))) (x'.goN (hz.trans hsz) (hds.mono hle) ?_)
    exact fun t v hv => (hD'.tr t v hv).imp (fun ⟨p, hp, _⟩ => absurd hp List.not_mem_nil) id
  | (i, chk) :: rest, φ, H, nx, tm, tmps, w, π, done, lds, κ, x, hsz, hds, hD, hL => by
    obtain ⟨o, ho, hni, hrdy, hpr, hpe⟩ := okPlan_cons hD.plan
    show RO P W f0 cs (Ev.optK ops[i]? (opD P c ops i chk rest k stk (stepD P c ops k stk rest) tm H nx) (.bad "no op")) _ frs w
    rw [ho]
    show RO P W f0 cs (opD P c ops i chk rest k stk (stepD P c ops k stk rest) tm H nx o) _ frs w
    unfold opD
    refine RO.optK fun b hb => ?_
    -- given ahead
    have ahead : ∀ {φ' : Phi} {H' : T OB} {nx' : Nat} {κ' : Nat → Nat} {u : Value}, (isRd o.op || isAl o.op) = true → (∀ d, o.dst = some d → d < c.nt) → φ.le φ' →
        (∀ k, k < nx → φ[k]? = some none → φ'[k]? = some none ∧ hp H' k = hp H k) → (∀ p, p ≠ i → κ' p = κ p) → nx ≤ nx' → HR P W φ' (hp H') w → φ'.length = nx' →
        Prom P φ' H' (tmPut tm o.dst u) ops κ' lo nx' i o → (isAl o.op = true → nx ≤ κ' i) → (∀ k ob, hp H k = some ob → hp H' k = some ob) →
        (isLd o.op = true → wantedO (tmPut tm o.dst u) ops o = some true → rd P H' (tmPut tm o.dst u) o = some u) →
        RO P W f0 cs (stepD P c ops k stk rest (tmPut tm o.dst u) H' nx') (mkF (fbOf c ds) tmps (.inRegion ops π :: k)) frs w := by
      intro φ' H' nx' κ' u hc hd hle hk hκ hn hH' hl hprom hfresh hext hself
      have x' : Cx P W f0 φ' H' nx' lo c.fn stk frs w := x.next hle (fun j hj q => hk j (by have := x.hlo; omega) q) hH' hl hn
      refine stepD_ok rest φ' H' nx' _ tmps w π (i :: done) _ κ' x' hsz (hds.mono hle) (hD.take ho hni hrdy (hpr hc) (fun p hp => ?_) (fun hl => ?_) hle hk hκ hn (fun d h => by rw [hsz]; exact hd d h) hprom hfresh) (hL.take hD.sa hD.ready ho hni hext hself)
      · split
        · exact List.mem_cons_of_mem _ hp
        · exact hp
      · rw [if_pos hl]; simp
    have hself : ∀ {d : Tmp}, o.dst = some d → d ∉ o.looksAt ops := fun hd => not_self hD.sa hD.ac ho hd
    have e1 : ∀ u, wantedO (tmPut tm o.dst u) ops o = wantedO tm ops o := fun u => stable_w (i := i) (p := i) fun d hd => hself hd
    have e2 : ∀ u H, rd P H (tmPut tm o.dst u) o = rd P H tm o := fun u H => stable_rd fun d hd => hself hd
    have e3 : ∀ u d, o.dst = some d → (tmPut tm o.dst u).get (bits d) = some u := fun u d hd => by rw [get_tmPut, if_pos hd]
    -- its turn has come
    have turn : (isRd o.op || isAl o.op) = false → ∃ φ1 tmps1 w1 l, Steps P (lone (mkF (fbOf c ds) tmps (.inRegion ops π :: k)) (frs ++ cs) w) (lone (mkF (fbOf c ds) tmps1 (.inRegion ops (i :: l) :: k)) (frs ++ cs) w1) ∧
        φ.le φ1 ∧ Cx P W f0 φ1 H nx lo c.fn stk frs w1 ∧ DrawC P φ1 H tm tmps1 ops done lds ((i, chk) :: rest) (i :: l) κ lo nx ∧ tmps1.size = c.nt ∧
        Region.wanted o (yielded ops tmps1) = b ∧ EvR P φ1 tm (evalA tmps1) o.op.operands.toList := by
      intro hc
      obtain ⟨φ1, tmps1, w1, π', hs, hle, hH1, hlen, hk, hD1, _, hz, hn⟩ := run_pend (fn := fbOf c ds) (k := k) (cs := frs ++ cs) π φ tmps w x.hH hD hL
      obtain ⟨l, rfl⟩ := hD1.head ho hc hn
      exact ⟨φ1, tmps1, w1, l, hs, hle, x.next hle (fun j hj q => ⟨hk j hj q, rfl⟩) hH1 (hlen.trans x.hnx) (Nat.le_refl _), hD1, hz.trans hsz,
        wanted_of hD1.tr (fun p hp d hd => head_free hD1.sa hD1.lin ho (looks_guard hp hd)) hb, EvR_of hH1.gl hD1.tr fun t ht => head_free hD1.sa hD1.lin ho (looks_op ht)⟩
    refine RO.bK (fun hbt => ?_) (fun hbf => ?_)
    · subst hbt
      unfold doD
      refine RO.bK (fun hrd => RO.optK fun v hv => ?_) (fun hrd => RO.bK (fun hal => ?_) (fun hal => ?_))
      · refine RO.putK fun hd => ahead (u := v) (κ' := κ) (by rw [hrd]; rfl) hd φ.le_refl (fun k _ q => ⟨q, rfl⟩) (fun _ _ => rfl) (Nat.le_refl _) x.hH x.hnx
          (.inr (.inl ⟨(e1 v).trans hb, hrd, v, e3 v, fun _ => (e2 v H).trans hv⟩)) (fun hal => ?_) (fun _ _ h => h) (fun _ _ => (e2 v H).trans hv)
        obtain ⟨e, he⟩ := isAl_inv hal
        rw [he] at hrd
        cases hrd
      · obtain ⟨e, he⟩ := isAl_inv hal
        have hef : ef P H nx tm o = efAlloc P H nx e := by unfold ef; simp only [he]
        rw [hef]
        unfold efAlloc
        cases hz : zeroC P e with
        | none => trivial
        | some l =>
          rw [optK_some, newK_eq]
          show RO P W f0 cs (Ev.putK c.nt tm o.dst (ptrAt nx) (fun tm => stepD P c ops k stk rest tm (set H (bits nx) (some (newOB l e))) (nx + 1)) (.bad "put")) _ frs w
          have hnone : hp H nx = none := by
            cases hx : hp H nx with
            | none => rfl
            | some ob => have := x.hH.dom nx ob hx; have := x.hnx; omega
          have hnx := x.hnx
          subst hnx
          refine RO.putK fun hd => ahead (u := ptrAt φ.length) (κ' := fun p => if p = i then φ.length else κ p) (φ' := φ ++ [none]) (by rw [hal]; simp) hd (le_push φ _) (fun j hj q => ⟨?_, ?_⟩) (fun p hp => if_neg hp) (Nat.le_succ _) ?_ (by simp)
            (.inr (.inr ⟨(e1 _).trans hb, e, l, he, hz, ?_, ?_, ?_, ?_, fun d hd => ?_⟩)) (fun _ => ?_) (fun j ob hj => ?_) (fun hl => ?_)
          · rw [List.getElem?_append_left hj]; exact q
          · rw [hp_set, upd_other _ (by omega)]
          · rw [hp_set]; exact x.hH.pend _
          · dsimp only; rw [if_pos rfl]; exact get_push φ _
          · dsimp only; rw [if_pos rfl, hp_set, upd_same]
          · dsimp only; rw [if_pos rfl]; exact x.hlo
          · dsimp only; rw [if_pos rfl]; omega
          · dsimp only; rw [if_pos rfl]; exact e3 _ d hd
          · rw [if_pos rfl]; exact Nat.le_refl _
          · rw [hp_set]
            by_cases hjn : j = φ.length
            · subst hjn; rw [hnone] at hj; cases hj
            · rw [upd_other _ hjn]; exact hj
          · rw [he] at hl; cases hl
      · have hc : (isRd o.op || isAl o.op) = false := by rw [hrd, hal]; rfl
        obtain ⟨φ1, tmps1, w1, l, hs, hle1, x1, hD1, hsz1, hw1, hE1⟩ := turn hc
        cases he : ef P H nx tm o with
        | bad => trivial
        | dfr g args => trivial
        | rcv => trivial
        | val v H' nx' =>
          obtain ⟨φ2, v', w2, hs2, h1, h2, h3, h4, h5⟩ := eff_run (fb := fbOf c ds) (k := k) (cs := cs) (frs := frs) (rest := l) ho hw1 (ef_sound x1.hH x1.hnx hE1 he)
          have hn : nx ≤ nx' := by have := le_len h2 h5; rw [x1.hnx, h4] at this; exact this
          show RO P W f0 cs (Ev.putK c.nt tm o.dst v (fun tm => Ev.bK (chk.all (held P H' tm ops)) (stepD P c ops k stk rest tm H' nx') (.bad "held")) (.bad "put")) _ frs w
          refine RO.putK fun hd => ?_
          refine RO.bK (fun hchk => ?_) (fun _ => trivial)
          obtain ⟨h6, h7⟩ := hD1.finish ho hc h2 (fun j _ q => h5 j q) hn h1 (fun d h => by rw [hsz1]; exact hd d h) hchk
          exact RO.steps (hs.trans (.one hs2)) (stepD_ok rest _ _ _ _ _ _ _ _ _ _ (x1.next h2 (fun j _ q => h5 j q) h3 h4 hn) (by rw [putA_size]; exact hsz1) (hds.mono (Phi.le_trans hle1 h2)) h6 h7)
        | call g args =>
          obtain ⟨args', h1, hok, h2⟩ := ef_call hE1 he
          show RO P W f0 cs (enterK P g false args (fun n => .go ⟨n, ⟨c, tm, k, some (ops, (i, chk) :: rest), .run⟩ :: stk, H, nx⟩) (.bad "enter")) _ frs w
          have h3 := enter_ok (cs := cs) (fr := mkF (fbOf c ds) tmps1 (.inRegion ops (i :: l) :: k)) (z := "enter") x1 (kd := false) h1 (f := ⟨c, tm, k, some (ops, (i, chk) :: rest), .run⟩) rfl (frS := mkF (fbOf c ds) tmps1 (.inRegion ops (i :: l) :: k))
            (.run hsz1 (hds.mono hle1) ⟨i, chk, rest, l, done, lds, κ, o, rfl, rfl, ho, hc, hD1⟩) (.one (step_enter ho hw1 (h2 w1)))
          exact RO.steps hs h3
        | pan v =>
          obtain ⟨v', h1, h2⟩ := ef_pan hE1 he
          show RO P W f0 cs (Ev.bK c.df.isEmpty (.go ⟨⟨c, tm, [], none, .pan [(v, false)]⟩, stk, H, nx⟩) (.bad "panic")) _ frs w
          refine RO.bK (fun hq => ?_) (fun _ => trivial)
          refine RO.steps (hs.trans (.one (step_pan ho hw1 (h2 w1)))) (Cx.go (f := ⟨c, tm, [], none, .pan [(v, false)]⟩) x1 (.pan hsz1 (hds.mono hle1) (.cons h1 .nil) (.inr ⟨rfl, ?_⟩)))
          exact List.isEmpty_iff.1 hq
    · subst hbf
      refine RO.putK fun hd => ?_
      refine RO.bK (fun hchk => ?_) (fun _ => trivial)
      cases hc : (isRd o.op || isAl o.op) with
      | true =>
        refine ahead (u := undef) (κ' := fun p => if p = i then nx else κ p) hc hd φ.le_refl (fun k _ q => ⟨q, rfl⟩) (fun p hp => if_neg hp) (Nat.le_refl _) x.hH x.hnx
          (.inl ⟨(e1 _).trans hb, e3 _⟩) (fun _ => ?_) (fun _ _ h => h) (fun _ hw => ?_)
        · rw [if_pos rfl]; exact Nat.le_refl _
        · rw [e1, hb] at hw; cases hw
      | false =>
        obtain ⟨φ1, tmps1, w1, l, hs, hle1, x1, hD1, hsz1, hw1, _⟩ := turn hc
        obtain ⟨h6, h7⟩ := hD1.finish (H' := H) ho hc φ1.le_refl (fun j _ q => ⟨q, rfl⟩) (Nat.le_refl _) (.flat undef rfl) (fun d h => by rw [hsz1]; exact hd d h) hchk
        exact RO.steps (hs.trans (.one (step_not ho hw1))) (stepD_ok rest _ _ _ _ _ _ _ _ _ _ x1 (by rw [putA_size]; exact hsz1) (hds.mono hle1) h6 h7)

/-! all else -/
theorem stepC_ok (x : Cx P W f0 φ H nx lo c.fn stk frs w) (hsz : tmps.size = c.nt) (hds : DsR P φ c.df ds) (htr : TRm φ (fun _ => False) tm tmps) (cd : Code) : ∀ k : List Item,
    RO P W f0 cs (stepC P c tm stk H nx cd k) (mkF (fbOf c ds) tmps (.code cd :: k)) frs w := by
  have to : ∀ {cd : Code} {k k' : List Item}, step P (lone (mkF (fbOf c ds) tmps (.code cd :: k)) (frs ++ cs) w) = .next (lone (mkF (fbOf c ds) tmps k') (frs ++ cs) w) →
      RO P W f0 cs (toT c tm stk H nx k') (mkF (fbOf c ds) tmps (.code cd :: k)) frs w := fun hs => RO.steps (.one hs) (x.goN hsz hds htr)
  induction cd with
  | ret => exact fun k => leave_ok x hsz hds htr (.inr ⟨k, rfl⟩)
  | skip => exact fun k => to (step_skip (b := mkF (fbOf c ds) #[] []) (a := ⟨tmps, ds⟩))
  | label l => exact fun k => to (step_label (b := mkF (fbOf c ds) #[] []) (a := ⟨tmps, ds⟩))
  | seq a b iha _ => exact fun k => RO.steps (.one (step_seq (b := mkF (fbOf c ds) #[] []) (a := ⟨tmps, ds⟩))) (iha (.code b :: k))
  | cond q a b iha ihb =>
    intro k
    show RO P W f0 cs (boolK (eva P tm q) (stepC P c tm stk H nx a k) (stepC P c tm stk H nx b k) (.bad "cond")) _ frs w
    unfold boolK
    split
    · rename_i t hx
      have he : Act.eval ⟨tmps, ds⟩ q = .bool t := by
        rw [evalA_eq]
        exact ((EvR_of x.hH.gl htr (l := [q]) noMask) q (by simp) _ hx).eq_of_flat rfl
      have hs := step_cond (P := P) (b := mkF (fbOf c ds) #[] []) (a := ⟨tmps, ds⟩) (k := k) (cs := frs ++ cs) (w := w) (x := a) (y := b) he
      cases t with
      | true => exact RO.steps (.one hs) (iha k)
      | false => exact RO.steps (.one hs) (ihb k)
    · trivial
  | block id body ih => exact fun k => RO.steps (.one (step_block (b := mkF (fbOf c ds) #[] []) (a := ⟨tmps, ds⟩))) (ih (.inBlock id :: k))
  | loop body ih =>
    exact fun k => RO.steps (.one (step_loop (b := mkF (fbOf c ds) #[] []) (a := ⟨tmps, ds⟩))) (ih (.inLoop body :: k))
  | scope body ih => exact fun k => RO.steps (.one (step_scope (b := mkF (fbOf c ds) #[] []) (a := ⟨tmps, ds⟩))) (ih (.inScope body :: k))
  | exit id => exact fun k => RO.optK fun k' hk => to (step_exit (b := mkF (fbOf c ds) #[] []) (a := ⟨tmps, ds⟩) hk)
  | goto l => exact fun k => RO.optK fun k' hk => to (step_goto (b := mkF (fbOf c ds) #[] []) (a := ⟨tmps, ds⟩) hk)
  | region id ops draw =>
    intro k
    show RO P W f0 cs (regT P c tm stk H nx ops draw k) _ frs w
    unfold regT
    cases draw with
    | false => exact RO.steps (.one (step_region (b := mkF (fbOf c ds) #[] []) (a := ⟨tmps, ds⟩))) (stepR_ok _ _ _ _ _ _ _ x hsz hds htr)
    | true =>
      refine RO.bK (fun _ => ?_) (fun q => by cases q)
      refine RO.bK (fun hm => ?_) (fun _ => trivial)
      refine RO.optK fun pl hpl => ?_
      have hs := step_region_draw (P := P) (b := mkF (fbOf c ds) #[] []) (a := ⟨tmps, ds⟩) (k := k) (cs := frs ++ cs) (w := w) (ops := ops) (id := id)
      rw [hm] at hs
      have x' : Cx P W f0 φ H nx lo c.fn stk frs w.drew := ⟨x.hH.drew, x.hnx, x.hlo, x.hS, x.hb⟩
      obtain ⟨h1, h2⟩ := DrawC.start (P := P) (φ := φ) (H := H) hpl (w.tape w.drawn (.order (mkF (fbOf c ds) #[] []).fn id)) htr lo nx
      exact RO.steps (.one hs) (stepD_ok pl _ _ _ _ _ _ _ _ _ _ x' hsz hds h1 h2)
  | _ => exact fun k => trivial

theorem stepT_ok (x : Cx P W f0 φ H nx lo c.fn stk frs w) (hsz : tmps.size = c.nt) (hds : DsR P φ c.df ds) (htr : TRm φ (fun _ => False) tm tmps) : ∀ todo : List Item,
    RO P W f0 cs (stepT P c tm stk H nx todo) (mkF (fbOf c ds) tmps todo) frs w
  | [] => leave_ok x hsz hds htr (.inl rfl)
  | it :: k => by
    have ih := stepT_ok x hsz hds htr k
    show RO P W f0 cs (stepI P c tm stk H nx k (stepT P c tm stk H nx k) it) _ frs w
    unfold stepI
    cases it with
    | code cd => exact stepC_ok x hsz hds htr cd k
    | inBlock id => exact RO.steps (.one (step_inBlock (b := mkF (fbOf c ds) #[] []) (a := ⟨tmps, ds⟩))) ih
    | inScope body => exact RO.steps (.one (step_inScope (b := mkF (fbOf c ds) #[] []) (a := ⟨tmps, ds⟩))) ih
    | inLoop body => exact RO.steps (.one (step_inLoop (b := mkF (fbOf c ds) #[] []) (a := ⟨tmps, ds⟩))) (stepC_ok x hsz hds htr body _)
    | inRegion ops l => exact stepR_ok l _ _ _ _ _ _ x hsz hds htr
    | _ => trivial

theorem step_ok {s : St} (h : MR P W f0 s fr frs w) : RO P W f0 cs (stepE P s) fr frs w := by
  obtain ⟨φ, lo, x, hf⟩ := h
  obtain ⟨⟨c, tm, todo, dr, md⟩, stk, H, nx⟩ := s
  cases md with
  | ret => exact stepU_ok (by simp) x hf
  | pan l => exact stepU_ok (by simp) x hf
  | run =>
    cases hf with
    | @run _ _ _ _ tmps ds todo' _ _ hsz hds h =>
      have h : RunA P φ H ⟨c, tm, todo, dr, .run⟩ tmps todo' lo nx := h
      cases dr with
      | none =>
        obtain ⟨ht, htr⟩ := h
        have ht : todo' = todo := ht
        subst ht
        exact stepT_ok x hsz hds htr todo'
      | some d =>
        obtain ⟨ops, pl⟩ := d
        obtain ⟨π, done, lds, κ, ht, hD, hL⟩ := h
        subst ht
        exact stepD_ok pl _ _ _ _ _ _ _ _ _ _ x hsz hds hD hL

theorem run_succ (n : Nat) (s : St) : run P (n + 1) s = Res.casesOn (motive := fun _ => Res) (stepE P s) (run P n) (fun v H => .done v H) (fun w => .bad w) := rfl

theorem run_ok : ∀ (n : Nat) (s : St) (fr : Frame) (frs : List Frame) (w : World), MR P W f0 s fr frs w → ∀ v H, run P n s = .done v H →
    ∃ fr' w' φ v', Steps P (lone fr (frs ++ cs) w) (lone fr' cs w') ∧ fr'.leaving P w' (.returned v') ∧ fr'.fn = f0 ∧ VR φ v v' ∧ Below W.heap.size W w'
  | 0, s, fr, frs, w, _, v, H, hr => by cases hr
  | n + 1, s, fr, frs, w, hm, v, H, hr => by
    have h := step_ok (cs := cs) hm
    rw [run_succ] at hr
    cases hs : stepE P s with
    | go s' =>
      rw [hs] at h hr
      obtain ⟨fr1, frs1, w1, h1, h2⟩ := h
      obtain ⟨fr', w', φ, v', h3, h4⟩ := run_ok n s' fr1 frs1 w1 h2 v H hr
      exact ⟨fr', w', φ, v', h1.trans h3, h4⟩
    | done v1 H1 =>
      rw [hs] at h hr
      have hr : Res.done v1 H1 = .done v H := hr
      cases hr
      obtain ⟨rfl, fr', w', φ, v', h1, h2⟩ := h
      exact ⟨fr', w', φ, v', h1, h2⟩
    | bad z => rw [hs] at hr; cases hr

/-- A call whose arguments hold no address: what it comes to in the evaluator, it comes to in the model, and below it all stays. -/
theorem calls_of_evals {n : Nat} {f : FuncId} {args : List Value} {v : Value} {φ0 : Phi} {H0 : T OB} {nx0 : Nat} {w : World} (hH : HR P w φ0 (hp H0) w) (hnx : φ0.length = nx0)
    (hargs : ∀ x ∈ args, flat x = true) (hv : flat v = true) (h : evals P n f args H0 nx0 = some v) : Calls P f args.toArray w fun e w' => e = .returned v ∧ Below w.heap.size w w' := by
  intro cs
  unfold evals start enterK at h
  cases hf : P.funcs[f]? with
  | none => simp only [hf] at h; cases h
  | some fd =>
    cases hb : fd.body with
    | none => simp only [hf, hb] at h; cases h
    | some cd =>
      simp only [hf, hb] at h
      cases hn : Nat.ble args.length fd.ntmps with
      | false => rw [hn] at h; cases h
      | true =>
        rw [hn] at h
        have h : (match (fromLK args 0 .leaf fun tm => some (⟨⟨⟨f, fd.ntmps, false, []⟩, tm, [.code cd], none, .run⟩, [], H0, nx0⟩ : St)) with
          | some s => match run P n s with
            | .done v _ => some v
            | _ => none
          | none => none) = some v := h
        rw [fromLK_fromL] at h
        have hn := ble_le hn
        have e : Frame.enter P f args.toArray .normal = mkF (fbOf ⟨f, fd.ntmps, false, []⟩ []) (args.toArray ++ Array.replicate (fd.ntmps - args.toArray.size) undef) [.code cd] := by
          simp [Frame.enter, hf, hb, mkF, fbOf, kindOf]
        have hm : MR P w f ⟨⟨⟨f, fd.ntmps, false, []⟩, fromL args 0 .leaf, [.code cd], none, .run⟩, [], H0, nx0⟩ (Frame.enter P f args.toArray .normal) [] w := by
          rw [e]
          refine ⟨φ0, 0, ⟨hH, hnx, Nat.zero_le _, .nil 0, rfl⟩, .run ?_ .nil ⟨rfl, ?_⟩⟩
          · show (args.toArray ++ Array.replicate (fd.ntmps - args.toArray.size) undef).size = fd.ntmps
            simp only [Array.size_append, List.size_toArray, Array.size_replicate]; omega
          · intro t v hv
            have hv : (fromL args 0 .leaf).get (bits t) = some v := hv
            rw [get_fromL] at hv
            split at hv
            · rename_i ht
              rw [Nat.sub_zero] at hv
              refine .inr ⟨v, ?_, .flat v (hargs v (List.mem_of_getElem? hv))⟩
              have : t < args.toArray.size := by simp; omega
              rw [Array.getElem?_append_left this]
              simpa using hv
            · rw [get_leaf] at hv; cases hv
        have h : (match run P n ⟨⟨⟨f, fd.ntmps, false, []⟩, fromL args 0 .leaf, [.code cd], none, .run⟩, [], H0, nx0⟩ with
            | .done v _ => some v
            | _ => none) = some v := h
        cases hr : run P n ⟨⟨⟨f, fd.ntmps, false, []⟩, fromL args 0 .leaf, [.code cd], none, .run⟩, [], H0, nx0⟩ with
        | go s => rw [hr] at h; cases h
        | bad z => rw [hr] at h; cases h
        | done v1 H1 =>
          rw [hr] at h
          cases h
          obtain ⟨fr', w', φ, v', h1, h2, h3, h4, h5⟩ := run_ok (cs := cs) n _ _ _ _ hm v H1 hr
          have := h4.eq_of_flat hv
          subst this
          exact ⟨.returned v', w', fr', ⟨rfl, h5⟩, h1, h3, h2⟩
end
end Go.Ev
