/- The steps of a region with a draw. -/
import Derived.Test.YtcfpakjillacgaaGreatDoorQK
namespace Go.Ev
noncomputable section
open Go.RowKit (Below)
variable {P : Program} {W w : World} {φ φ' : Phi} {H H' : T OB} {tm : T Value} {tmps : Array Value} {ops : Array Oper}
variable {done lds : List Nat} {pl : List (Nat × List Nat)} {π : List Nat} {κ : Nat → Nat} {lo hi : Nat}

theorem ext_at {β : Type} {F : Option OB → Option β} (hF : F none = none) {b : Nat} {u : β} (hext : ∀ k ob, hp H k = some ob → hp H' k = some ob) (h : F (H.get (bits b)) = some u) : H'.get (bits b) = H.get (bits b) := by
  cases hg : H.get (bits b) with
  | none => rw [hg, hF] at h; cases h
  | some ob => exact hext b ob hg
theorem ext_bool {F : Option OB → Bool} (hF : F none = false) {b : Nat} (hext : ∀ k ob, hp H k = some ob → hp H' k = some ob) (h : F (H.get (bits b)) = true) : H'.get (bits b) = H.get (bits b) := by
  cases hg : H.get (bits b) with
  | none => rw [hg, hF] at h; cases h
  | some ob => exact hext b ob hg

theorem isCells_ext {b : Nat} (hext : ∀ k ob, hp H k = some ob → hp H' k = some ob) (h : isCells H b = true) : isCells H' b = true := by
  unfold isCells at h ⊢
  rw [ext_bool (F := fun x => cellsK x (fun _ _ _ => true) false) rfl hext h]
  exact h

theorem rd_ext {o : Oper} {u : Value} (hext : ∀ k ob, hp H k = some ob → hp H' k = some ob) (h : rd P H tm o = some u) : rd P H' tm o = some u := by
  cases hl : isLd o.op with
  | false => rw [rd_heap hl]; exact h
  | true =>
    unfold rd at h ⊢
    cases ho : o.op with
    | load t x =>
      simp only [ho] at h ⊢
      unfold rdLoad at h ⊢
      split at h
      · rename_i b off _
        unfold loadO at h ⊢
        rw [ext_at (F := fun x => rowK x (fun n tr => loadB P n tr t off) none) rfl hext h]
        exact h
      · exact h
      · cases h
    | slice t x lo hi mx =>
      simp only [ho] at h ⊢
      unfold rdSlice at h ⊢
      split at h
      · rename_i b off len cap hx
        obtain ⟨hm, h⟩ := bif_inv h
        rw [hm]
        obtain ⟨s, hs, h3⟩ := optK_inv h
        obtain ⟨l, hl, h3⟩ := optK_inv h3
        obtain ⟨hh, hhi, h3⟩ := optK_inv h3
        simp only [cond_true, hs, optK_some, hl, hhi]
        cases hc : Nat.beq cap unk with
        | false => rw [hc] at h3; exact h3
        | true =>
          rw [hc] at h3
          have h3 : sliceU P H b off len s l hh = some u := h3
          show sliceU P H' b off len s l hh = some u
          unfold sliceU at h3 ⊢
          obtain ⟨h4, h5⟩ := bif_inv h3
          rw [h4]
          cases h6 : Nat.beq l 0 with
          | true => rw [h6] at h5; exact h5
          | false =>
            rw [h6] at h5
            obtain ⟨h7, h8⟩ := bif_inv (show (bif Nat.blt l len && esIs P H b s then natF (Nat.sub hh l) (fun n => natF (Nat.add off (Nat.mul l s)) fun o => some (Value.slice (some ⟨b, o, none⟩) n unk)) else none) = some u from h5)
            simp only [Bool.and_eq_true] at h7
            have h9 : esIs P H' b s = true := by
              have h9 := h7.2
              unfold esIs at h9 ⊢
              rw [ext_bool (F := fun x => cellsK x (fun _ _ el => optK (szOf P el) (fun z => Nat.beq z s) false) false) rfl hext h9]
              exact h9
            show (bif Nat.blt l len && esIs P H' b s then natF (Nat.sub hh l) (fun n => natF (Nat.add off (Nat.mul l s)) fun o => some (Value.slice (some ⟨b, o, none⟩) n unk)) else none) = some u
            rw [h7.1, h9]
            exact h8
      · exact h
      · exact h
      · cases h
    | lookup t m k ok =>
      simp only [ho] at h ⊢
      have h : rdLookup P H t (eva P tm m) (eva P tm k) ok = some u := h
      show rdLookup P H' t (eva P tm m) (eva P tm k) ok = some u
      have he : esOf H' (eva P tm m) = esOf H (eva P tm m) := by
        unfold rdLookup at h
        obtain ⟨kt, et, d, _, _, _, h⟩ := mapTK_inv h
        obtain ⟨es, hes, _⟩ := optK_inv h
        unfold esOf at hes ⊢
        split at hes
        · rfl
        · rename_i b
          rw [ext_at (F := fun x => match x with | some (.map es _) => some es | _ => none) rfl hext hes]
        · cases hes
      unfold rdLookup at h ⊢
      rw [he]
      exact h
    | convert s d x =>
      simp only [ho] at h ⊢
      unfold rdConv at h ⊢
      split at h
      · rename_i b off n cp hx
        obtain ⟨h1, h2⟩ := bif_inv h
        rw [h1]
        show rowK (H'.get (bits b)) _ none = some u
        rw [ext_at (F := fun x => rowK x (fun m tr => bif Nat.ble (off + n) m then optK (toL tr n off) (fun l => optK (strOf l) (fun r => some (Value.string ⟨⟨r⟩⟩)) none) none else none) none) rfl hext h2]
        exact h2
      · exact h
      · cases h
    | binOp op t x y yt =>
      simp only [ho] at h ⊢
      unfold rdBin at h ⊢
      obtain ⟨a, ha, h⟩ := optK_inv h
      obtain ⟨b, hb, h⟩ := optK_inv h
      rw [ha, hb]
      simp only [optK_some]
      have two : ∀ a b, rdBin2 P H op t (isK x || isK y) a b = some u → rdBin2 P H' op t (isK x || isK y) a b = some u := fun a b h => by
        unfold rdBin2 at h ⊢
        cases hf : flat a && flat b with
        | true => rw [hf] at h; exact h
        | false =>
          rw [hf] at h
          have h : rdPtr P H op t a b = some u := h
          show rdPtr P H' op t a b = some u
          unfold rdPtr at h ⊢
          split at h
          · split at h
            · obtain ⟨hc, h⟩ := bif_inv h
              simp only [Bool.and_eq_true] at hc
              rw [isCells_ext hext hc.1, isCells_ext hext hc.2]
              exact h
            · cases h
          · exact h
      unfold rdBin1 at h ⊢
      split at h
      · unfold rdAgg at h ⊢
        split at h
        · exact h
        · exact two _ _ h
      · exact two _ _ h
    | _ => rw [ho] at hl; cases hl

theorem okPlan_cons {an : List Nat} {i : Nat} {chk : List Nat} {rest : List (Nat × List Nat)} (h : okPlan ops an done lds ((i, chk) :: rest) = true) :
    ∃ o, ops[i]? = some o ∧ i ∉ done ∧ readyIn ops done o = true ∧
      (fore an i o = true → okPlan ops an (i :: done) (if isLd o.op = true then i :: lds else lds) rest = true) ∧
      (fore an i o = false → (isRd o.op = true → chk = []) ∧ (∀ j ∈ rest, ∀ q, ops[j.1]? = some q → readyIn ops done q = false) ∧ (∀ p ∈ lds, p ∈ chk ∨ p ∈ ancs ops i) ∧ okPlan ops an (i :: done) chk rest = true) := by
  unfold okPlan at h
  cases ho : ops[i]? with
  | none => simp only [ho] at h; cases h
  | some o =>
    simp only [ho, Bool.and_eq_true, Bool.not_eq_true'] at h
    obtain ⟨⟨h1, h2⟩, h3⟩ := h
    refine ⟨o, rfl, fun q => ?_, h2, fun hc => ?_, fun hc => ?_⟩
    · have : done.contains i = true := by simpa using q
      rw [h1] at this
      cases this
    · rw [if_pos hc] at h3; exact h3
    · rw [if_neg (by rw [hc]; decide)] at h3
      simp only [Bool.and_eq_true] at h3
      refine ⟨fun hr => by simpa [hr] using h3.1.1.1, fun j hj q hq => ?_, fun p hp => ?_, h3.2⟩
      · have := List.all_eq_true.1 h3.1.1.2 j hj
        rw [hq] at this
        simpa using this
      · have := List.all_eq_true.1 h3.1.2 p hp
        simpa using this

theorem okPlan_all {an : List Nat} : ∀ (pl : List (Nat × List Nat)) (done lds : List Nat), okPlan ops an done lds pl = true → ∀ i, i < ops.size → i ∈ done ∨ ∃ c, (i, c) ∈ pl
  | [], done, lds, h, i, hi => by
    unfold okPlan at h
    have := List.all_eq_true.1 h i (List.mem_range.2 hi)
    exact .inl (by simpa using this)
  | (j, chk) :: rest, done, lds, h, i, hi => by
    obtain ⟨o, _, _, _, h1, h2⟩ := okPlan_cons h
    have key : ∀ lds', okPlan ops an (j :: done) lds' rest = true → i ∈ done ∨ ∃ c, (i, c) ∈ (j, chk) :: rest := fun lds' hh => by
      rcases okPlan_all rest (j :: done) lds' hh i hi with h | ⟨c, h⟩
      · rcases List.mem_cons.1 h with h | h
        · subst h; exact .inr ⟨chk, by simp⟩
        · exact .inl h
      · exact .inr ⟨c, List.mem_cons_of_mem _ h⟩
    cases hc : fore an j o with
    | true => exact key _ (h1 hc)
    | false => exact key _ (h2 hc).2.2.2

theorem readyIn_iff {o : Oper} : readyIn ops done o = true ↔ ∀ e ∈ o.after, Region.binds .any e = true → e.on ∈ done := by
  unfold readyIn
  rw [List.all_eq_true]
  constructor
  · intro h e he hb
    have := h e (by simpa using he)
    simpa [hb] using this
  · intro h e he
    cases hb : Region.binds .any e with
    | false => rfl
    | true => simpa using h e (by simpa using he) hb

/-- What was given ahead does not look at what is given next. -/
theorem not_looked {i p : Nat} (hna : i ∉ antis ops) {o op : Oper} (ho : ops[i]? = some o) (hp : ops[p]? = some op) (hr : readyIn ops done op = true) (hi : i ∉ done) {d : Tmp} (hd : o.dst = some d) : d ∉ op.looksAt ops := fun hl => by
  obtain ⟨e, he, hb, hon⟩ := direct_iff.1 (not_anti hna hp ho hd hl)
  exact hi (hon ▸ readyIn_iff.1 hr e he hb)
/-- Nor does what is still under way behind the one whose turn has come. -/
theorem not_looked' (hs : saOk ops = true) {i p : Nat} {o op : Oper} (ho : ops[i]? = some o) (hp : ops[p]? = some op) (hr : readyIn ops done op = true) (hi : i ∉ done) (hdeps : ∀ e ∈ o.after, Region.binds .any e = true → e.on ≠ p) {d : Tmp} (hd : o.dst = some d) : d ∉ op.looksAt ops := fun hl => by
  rcases sa_reads hs hp ho hd hl with h | h
  · obtain ⟨e, he, hb, hon⟩ := direct_iff.1 h
    exact hi (hon ▸ readyIn_iff.1 hr e he hb)
  · obtain ⟨e, he, hb, hon⟩ := direct_iff.1 h
    exact hdeps e he hb hon

theorem stable_w {i p : Nat} {o op : Oper} {u : Value} (hl : ∀ d, o.dst = some d → d ∉ op.looksAt ops) : wantedO (tmPut tm o.dst u) ops op = wantedO tm ops op :=
  wantedO_congr fun g hg d hd => by
    rw [get_tmPut, if_neg]
    exact fun q => hl d q (looks_guard hg hd)
theorem stable_rd {o op : Oper} {u : Value} (hl : ∀ d, o.dst = some d → d ∉ op.looksAt ops) : rd P H (tmPut tm o.dst u) op = rd P H tm op :=
  rd_congr fun x hx => eva_tmPut tm o.dst u x fun d hd q => by
    subst q
    exact hl d hd (looks_op hx)
theorem stable_get {i p : Nat} {o op : Oper} {u : Value} (hs : saOk ops = true) (ho : ops[i]? = some o) (hp : ops[p]? = some op) (hne : i ≠ p) {d : Tmp} (hd : op.dst = some d) :
    (tmPut tm o.dst u).get (bits d) = tm.get (bits d) := by
  rw [get_tmPut, if_neg (sa_dst hs ho hp hd hne)]

/-- A promise goes on where another operation's value is put. -/
theorem Prom.next {i p : Nat} {o op : Oper} {u : Value} {κ' : Nat → Nat} {hi' : Nat} (hs : saOk ops = true) (ho : ops[i]? = some o) (hp' : ops[p]? = some op) (hne : i ≠ p)
    (hl : ∀ d, o.dst = some d → d ∉ op.looksAt ops) (hk : ∀ k, k < hi → φ[k]? = some none → φ'[k]? = some none ∧ hp H' k = hp H k) (hκ : κ' p = κ p) (hhi : hi ≤ hi')
    (h : Prom P φ H tm ops κ lo hi p op) : Prom P φ' H' (tmPut tm o.dst u) ops κ' lo hi' p op := by
  have e1 : wantedO (tmPut tm o.dst u) ops op = wantedO tm ops op := stable_w (i := i) (p := p) hl
  have e2 : ∀ d, op.dst = some d → (tmPut tm o.dst u).get (bits d) = tm.get (bits d) := fun d hd => stable_get hs ho hp' hne hd
  rcases h with ⟨h1, h2⟩ | ⟨h1, h2, v, h3, h4⟩ | ⟨h1, hal, e, l, mk, h3, h4, h5, h6, h7, h8⟩
  · exact .inl ⟨e1.trans h1, fun d hd => (e2 d hd).trans (h2 d hd)⟩
  · exact .inr (.inl ⟨e1.trans h1, h2, v, fun d hd => (e2 d hd).trans (h3 d hd), fun q => by rw [stable_rd hl, rd_heap q]; exact h4 q⟩)
  · refine .inr (.inr ⟨e1.trans h1, hal, e, l, mk, alR_congr (fun x hx => eva_tmPut tm o.dst u x fun d hd q => by
      subst q
      exact hl d hd (looks_op hx)) h3, ?_, ?_, ?_, ?_, fun d hd => ?_⟩)
    · rw [hκ]; exact (hk _ h7 h4).1
    · rw [hκ]; exact (hk _ h7 h4).2.trans h5
    · rw [hκ]; exact h6
    · rw [hκ]; omega
    · rw [hκ]; exact (e2 d hd).trans (h8 d hd)

theorem acyclic_self (hac : acyclic ops = true) {i : Nat} {o : Oper} (ho : ops[i]? = some o) : direct o i = false := by
  cases h : direct o i with
  | false => rfl
  | true =>
    obtain ⟨e, he, hb, hon⟩ := direct_iff.1 h
    have h1 := List.all_eq_true.1 hac i (List.mem_range.2 (Array.getElem?_eq_some_iff.1 ho).1)
    rw [ho] at h1
    have h2 := List.all_eq_true.1 h1 e (by simpa using he)
    simp only [hb, Bool.not_true, Bool.false_or] at h2
    have := blt_lt h2
    omega
theorem not_self (hs : saOk ops = true) (hac : acyclic ops = true) {i : Nat} {o : Oper} (ho : ops[i]? = some o) {d : Tmp} (hd : o.dst = some d) : d ∉ o.looksAt ops := fun hl => by
  have := (sa_reads hs ho ho hd hl).elim id id
  rw [acyclic_self hac ho] at this
  cases this

/-- An operation is given ahead. -/
theorem DrawC.take {i : Nat} {o : Oper} {chk : List Nat} {rest : List (Nat × List Nat)} (hD : DrawC P φ H tm tmps ops done lds ((i, chk) :: rest) π κ lo hi) (ho : ops[i]? = some o)
    (hna : i ∉ antis ops) (hni : i ∉ done) (hrdy : readyIn ops done o = true) {lds' : List Nat} (hplan : okPlan ops (anOf ops) (i :: done) lds' rest = true) (hsub : ∀ p ∈ lds, p ∈ lds') (hself : isLd o.op = true → i ∈ lds')
    {κ' : Nat → Nat} {hi' : Nat} (hle : φ.le φ') (hk : ∀ k, k < hi → φ[k]? = some none → φ'[k]? = some none ∧ hp H' k = hp H k) (hκ : ∀ p, p ≠ i → κ' p = κ p) (hhi : hi ≤ hi') {u : Value}
    (hdst : ∀ d, o.dst = some d → d < tmps.size) (hprom : Prom P φ' H' (tmPut tm o.dst u) ops κ' lo hi' i o) (hfresh : isAl o.op = true → hi ≤ κ' i) :
    DrawC P φ' H' (tmPut tm o.dst u) tmps ops (i :: done) lds' rest π κ' lo hi' := by
  have hisz : i < ops.size := (Array.getElem?_eq_some_iff.1 ho).1
  have hiπ : i ∈ π := hD.todo i hisz hni
  have nl : ∀ p, p ∈ done → ∀ op, ops[p]? = some op → ∀ d, o.dst = some d → d ∉ op.looksAt ops := fun p hpd op hp d hd => not_looked hna ho hp (hD.ready p hpd op hp) hni hd
  have hlt : ∀ q, q ∈ π → q ∈ done → ∀ o', ops[q]? = some o' → isAl o'.op = true → wantedO tm ops o' = some true → κ q < hi := fun q hq hqd o' ho' hal hw => by
    rcases hD.prom q hq hqd o' ho' with ⟨h1, _⟩ | ⟨_, h2, _⟩ | ⟨_, _, _, _, _, _, _, _, _, h7, _⟩
    · rw [hw] at h1; cases h1
    · rw [isAl_rd hal] at h2; cases h2
    · exact h7
  refine ⟨hD.sa, hD.ac, hplan, hD.lin, fun j hj hn => hD.todo j hj (fun q => hn (List.mem_cons_of_mem _ q)), hD.closed, fun j hj x hx => ?_, fun t v hv => ?_, fun j x d hx hxd hj => ?_, fun p hp hpd op hop => ?_, fun p hp hpd op hop hl => ?_, fun p q hp hpd hq hqd x y hx hy hxa hya hxw hyw heq => ?_, fun p hp hpd => (List.mem_cons.1 hpd).elim (fun h => h ▸ hna) (hD.own p hp)⟩
  · rw [readyIn_iff]
    intro e he hb
    rcases List.mem_cons.1 hj with h | h
    · subst h
      rw [ho] at hx
      cases hx
      exact List.mem_cons_of_mem _ (readyIn_iff.1 hrdy e he hb)
    · exact List.mem_cons_of_mem _ (readyIn_iff.1 (hD.ready j h x hx) e he hb)
  · rw [get_tmPut] at hv
    by_cases ht : o.dst = some t
    · refine .inl ⟨i, hiπ, by simp, ?_⟩
      unfold dstOf
      rw [ho]
      exact ht
    · rw [if_neg ht] at hv
      rcases hD.tr t v hv with ⟨p, h1, h2, h3⟩ | ⟨v', a, b⟩
      · exact .inl ⟨p, h1, List.mem_cons_of_mem _ h2, h3⟩
      · exact .inr ⟨v', a, b.mono hle⟩
  · rcases List.mem_cons.1 hj with h | h
    · subst h; rw [ho] at hx; cases hx; exact hdst d hxd
    · exact hD.dsts j x d hx hxd h
  · rcases List.mem_cons.1 hpd with h | h
    · subst h; rw [ho] at hop; cases hop; exact hprom
    · have hne : i ≠ p := fun q => hni (q ▸ h)
      exact (hD.prom p hp h op hop).next hD.sa ho hop hne (nl p h op hop) hk (hκ p (Ne.symm hne)) hhi
  · rcases List.mem_cons.1 hpd with h | h
    · subst h; rw [ho] at hop; cases hop; exact hself hl
    · exact hsub p (hD.lds p hp h op hop hl)
  · have wst : ∀ p, p ∈ done → ∀ x, ops[p]? = some x → wantedO (tmPut tm o.dst u) ops x = some true → wantedO tm ops x = some true := fun p hpd x hx h => by
      rw [stable_w (i := i) (p := p) (nl p hpd x hx)] at h; exact h
    rcases List.mem_cons.1 hpd with h | h <;> rcases List.mem_cons.1 hqd with h' | h'
    · rw [h, h']
    · have hne : q ≠ i := fun z => hni (z ▸ h')
      rw [hκ q hne, h] at heq
      rw [h] at hx
      rw [ho] at hx
      cases hx
      have := hfresh hxa
      have := hlt q hq h' y hy hya (wst q h' y hy hyw)
      omega
    · have hne : p ≠ i := fun z => hni (z ▸ h)
      rw [hκ p hne, h'] at heq
      rw [h'] at hy
      rw [ho] at hy
      cases hy
      have := hfresh hya
      have := hlt p hp h x hx hxa (wst p h x hx hxw)
      omega
    · have hne : p ≠ i := fun z => hni (z ▸ h)
      have hne' : q ≠ i := fun z => hni (z ▸ h')
      rw [hκ p hne, hκ q hne'] at heq
      exact hD.inj p q hp h hq h' x y hx hy hxa hya (wst p h x hx hxw) (wst q h' y hy hyw) heq

theorem LoadP.take {i : Nat} {o : Oper} (hs : saOk ops = true) (hready : ∀ i, i ∈ done → ∀ o, ops[i]? = some o → readyIn ops done o = true) (ho : ops[i]? = some o) (hna : i ∉ antis ops) (hni : i ∉ done) (hL : LoadP P H tm ops done π)
    (hext : ∀ k ob, hp H k = some ob → hp H' k = some ob) {u : Value} (hself : isLd o.op = true → wantedO (tmPut tm o.dst u) ops o = some true → rd P H' (tmPut tm o.dst u) o = some u) :
    LoadP P H' (tmPut tm o.dst u) ops (i :: done) π := by
  intro p hp hpd op hop hl hw
  rcases List.mem_cons.1 hpd with h | h
  · subst h
    rw [ho] at hop
    cases hop
    refine ⟨u, hself hl hw, fun d hd => ?_⟩
    rw [get_tmPut, if_pos hd]
  · have nl : ∀ d, o.dst = some d → d ∉ op.looksAt ops := fun d hd => not_looked hna ho hop (hready p h op hop) hni hd
    have hne : i ≠ p := fun q => hni (q ▸ h)
    rw [stable_w (i := i) (p := p) nl] at hw
    obtain ⟨v, h1, h2⟩ := hL p hp h op hop hl hw
    refine ⟨v, ?_, fun d hd => ?_⟩
    · rw [stable_rd nl]; exact rd_ext hext h1
    · rw [stable_get hs ho hop hne hd]; exact h2 d hd

/-- What an operation hangs on is done when its turn has come. -/
theorem anc_out {L : List Nat} (hcl : ∀ i, i ∉ L → ∀ o, ops[i]? = some o → ∀ e ∈ o.after, Region.binds .any e = true → e.on ∉ L) : ∀ (q : Nat) (acc : List Nat), (∀ x ∈ acc, x ∉ L) → ∀ x ∈ ancGo ops q acc, x ∉ L
  | 0, acc, h, x, hx => h x hx
  | q + 1, acc, h, x, hx => by
    unfold ancGo at hx
    split at hx
    · rename_i hc
      split at hx
      · rename_i o ho
        refine anc_out hcl q _ ?_ x hx
        have hq : q ∉ L := h q (by simpa using hc)
        have : ∀ (es : List Edge) (acc : List Nat), (∀ e ∈ es, e ∈ o.after) → (∀ x ∈ acc, x ∉ L) → ∀ x ∈ es.foldl (fun l e => if Region.binds .any e = true then e.on :: l else l) acc, x ∉ L := by
          intro es
          induction es with
          | nil => exact fun acc _ h => h
          | cons e es ih =>
            intro acc hes h
            refine ih _ (fun e' he' => hes e' (List.mem_cons_of_mem _ he')) ?_
            dsimp only
            split
            · rename_i hb
              intro x hx
              rcases List.mem_cons.1 hx with hx | hx
              · subst hx; exact hcl q hq o ho e (hes e (by simp)) hb
              · exact h x hx
            · exact h
        exact this _ _ (fun e he => by simpa using he) h
      · exact anc_out hcl q _ h x hx
    · exact anc_out hcl q _ h x hx

theorem ancs_out {i : Nat} {π : List Nat} (hlin : LinOk ops (i :: π)) (hcl : ∀ j, j ∉ i :: π → ∀ o, ops[j]? = some o → ∀ e ∈ o.after, Region.binds .any e = true → e.on ∉ i :: π) :
    ∀ x ∈ ancs ops i, x ∉ i :: π := by
  obtain ⟨⟨o, ho, hdeps⟩, _⟩ := hlin
  unfold ancs
  rw [ho]
  refine anc_out hcl i _ ?_
  have : ∀ (es : List Edge) (acc : List Nat), (∀ e ∈ es, e ∈ o.after) → (∀ x ∈ acc, x ∉ i :: π) → ∀ x ∈ es.foldl (fun l e => if Region.binds .any e = true then e.on :: l else l) acc, x ∉ i :: π := by
    intro es
    induction es with
    | nil => exact fun acc _ h => h
    | cons e es ih =>
      intro acc hes h
      refine ih _ (fun e' he' => hes e' (List.mem_cons_of_mem _ he')) ?_
      dsimp only
      split
      · rename_i hb
        intro x hx
        rcases List.mem_cons.1 hx with hx | hx
        · subst hx; exact hdeps e (hes e (by simp)) hb
        · exact h x hx
      · exact h
  exact this _ _ (fun e he => by simpa using he) (fun x hx => by cases hx)

/-- The one operation whose turn it is, and that is no reader, is done. -/
theorem DrawC.finish {i : Nat} {o : Oper} {chk : List Nat} {rest : List (Nat × List Nat)} (hD : DrawC P φ H tm tmps ops done lds ((i, chk) :: rest) (i :: π) κ lo hi) (ho : ops[i]? = some o)
    (hE : fore (anOf ops) i o = false) {hi' : Nat} (hle : φ.le φ') (hk : ∀ k, k < hi → φ[k]? = some none → φ'[k]? = some none ∧ hp H' k = hp H k) (hhi : hi ≤ hi') {u u' : Value} (hu : VR φ' u u')
    (hdst : ∀ d, o.dst = some d → d < tmps.size) (hchk : chk.all (held P H' (tmPut tm o.dst u) ops) = true) :
    DrawC P φ' H' (tmPut tm o.dst u) (putA tmps o.dst u') ops (i :: done) chk rest π κ lo hi' ∧ LoadP P H' (tmPut tm o.dst u) ops (i :: done) π := by
  obtain ⟨o', ho', hni, hrdy, _, hpl⟩ := okPlan_cons hD.plan
  rw [ho] at ho'
  cases ho'
  obtain ⟨_, _, hlds, hplan⟩ := hpl hE
  obtain ⟨⟨o', ho', hdeps⟩, hnπ, hlin⟩ := hD.lin
  rw [ho] at ho'
  cases ho'
  have hanc := ancs_out hD.lin hD.closed
  have nl : ∀ p, p ∈ π → p ∈ done → ∀ op, ops[p]? = some op → ∀ d, o.dst = some d → d ∉ op.looksAt ops := fun p hpπ hpd op hp d hd => not_looked' hD.sa ho hp (hD.ready p hpd op hp) hni (fun e he hb q => hdeps e he hb (by rw [q]; exact List.mem_cons_of_mem _ hpπ)) hd
  have pd : ∀ p, p ∈ π → p ∈ i :: done → p ∈ done := fun p hp hpd => (List.mem_cons.1 hpd).resolve_left (fun q => hnπ (q ▸ hp))
  have inchk : ∀ p, p ∈ π → p ∈ done → ∀ op, ops[p]? = some op → isLd op.op = true → p ∈ chk := fun p hp hpd op hop hl =>
    (hlds p (hD.lds p (List.mem_cons_of_mem _ hp) hpd op hop hl)).resolve_right (fun q => hanc p q (List.mem_cons_of_mem _ hp))
  refine ⟨⟨hD.sa, hD.ac, hplan, hlin, fun j hj hn => ?_, fun j hj x hx e he hb => ?_, fun j hj x hx => ?_, ?_, fun j x d hx hxd hj => ?_, fun p hp hpd op hop => ?_, fun p hp hpd op hop hl => inchk p hp (pd p hp hpd) op hop hl, fun p q hp hpd hq hqd x y hx hy hxa hya hxw hyw heq => ?_, fun p hp hpd => hD.own p (List.mem_cons_of_mem _ hp) (pd p hp hpd)⟩, ?_⟩
  · rcases List.mem_cons.1 (hD.todo j hj (fun q => hn (List.mem_cons_of_mem _ q))) with h | h
    · subst h; exact absurd (List.mem_cons_self ..) hn
    · exact h
  · by_cases hji : j = i
    · subst hji
      rw [ho] at hx
      cases hx
      exact fun h => hdeps e he hb (List.mem_cons_of_mem _ h)
    · exact fun h => hD.closed j (fun h => (List.mem_cons.1 h).elim hji hj) x hx e he hb (List.mem_cons_of_mem _ h)
  · rw [readyIn_iff]
    intro e he hb
    rcases List.mem_cons.1 hj with h | h
    · subst h
      rw [ho] at hx
      cases hx
      exact List.mem_cons_of_mem _ (readyIn_iff.1 hrdy e he hb)
    · exact List.mem_cons_of_mem _ (readyIn_iff.1 (hD.ready j h x hx) e he hb)
  · refine (hD.tr.mono hle).put hdst hu fun t ht hne => ?_
    obtain ⟨p, h1, h2, h3⟩ := ht
    rcases List.mem_cons.1 h1 with h | h
    · subst h; exact absurd h2 hni
    · exact ⟨p, h, List.mem_cons_of_mem _ h2, h3⟩
  · rw [putA_size]
    rcases List.mem_cons.1 hj with h | h
    · subst h; rw [ho] at hx; cases hx; exact hdst d hxd
    · exact hD.dsts j x d hx hxd h
  · have hpd := pd p hp hpd
    have hne : i ≠ p := fun q => hni (q ▸ hpd)
    exact (hD.prom p (List.mem_cons_of_mem _ hp) hpd op hop).next hD.sa ho hop hne (nl p hp hpd op hop) hk rfl hhi
  · have hpd := pd p hp hpd
    have hqd := pd q hq hqd
    have wst : ∀ p, p ∈ π → p ∈ done → ∀ x, ops[p]? = some x → wantedO (tmPut tm o.dst u) ops x = some true → wantedO tm ops x = some true := fun p hpπ hpd x hx h => by
      rw [stable_w (i := i) (p := p) (nl p hpπ hpd x hx)] at h; exact h
    exact hD.inj p q (List.mem_cons_of_mem _ hp) hpd (List.mem_cons_of_mem _ hq) hqd x y hx hy hxa hya (wst p hp hpd x hx hxw) (wst q hq hqd y hy hyw) heq
  · intro p hp hpd op hop hl hw
    have hpd := pd p hp hpd
    have h1 := List.all_eq_true.1 hchk p (inchk p hp hpd op hop hl)
    unfold held at h1
    rw [hop] at h1
    have h1 : heldW P H' (tmPut tm o.dst u) op (wantedO (tmPut tm o.dst u) ops op) = true := h1
    rw [hw] at h1
    have h1 : optK (rd P H' (tmPut tm o.dst u) op) (heldV (tmPut tm o.dst u) op.dst) false = true := h1
    cases hr : rd P H' (tmPut tm o.dst u) op with
    | none => rw [hr] at h1; cases h1
    | some v =>
      rw [hr] at h1
      have h1 : heldV (tmPut tm o.dst u) op.dst v = true := h1
      refine ⟨v, rfl, fun d hd => ?_⟩
      unfold heldV at h1
      rw [hd] at h1
      cases hg : (tmPut tm o.dst u).get (bits d) with
      | none => simp only [hg] at h1; cases h1
      | some v2 =>
        simp only [hg] at h1
        rw [vEq_sound h1]

/-- When its turn has come it is the model's next. -/
theorem DrawC.head {i : Nat} {o : Oper} {chk : List Nat} {rest : List (Nat × List Nat)} (hD : DrawC P φ H tm tmps ops done lds ((i, chk) :: rest) π κ lo hi) (ho : ops[i]? = some o)
    (hE : fore (anOf ops) i o = false) (hn : ∀ q l, π = q :: l → q ∉ done) : ∃ l, π = i :: l := by
  obtain ⟨o', ho', hni, hrdy, _, hpl⟩ := okPlan_cons hD.plan
  rw [ho] at ho'
  cases ho'
  obtain ⟨_, hrest, _, _⟩ := hpl hE
  have hi := hD.todo i (Array.getElem?_eq_some_iff.1 ho).1 hni
  cases π with
  | nil => cases hi
  | cons q l =>
    refine ⟨l, ?_⟩
    have hq := hn q l rfl
    obtain ⟨⟨oq, hoq, hdeps⟩, _, _⟩ := hD.lin
    have hqsz := (Array.getElem?_eq_some_iff.1 hoq).1
    have hqr : readyIn ops done oq = true := readyIn_iff.2 fun e he hb => by
      have h1 := hdeps e he hb
      have h2 : e.on < ops.size := by
        have h3 := List.all_eq_true.1 hD.ac q (List.mem_range.2 hqsz)
        rw [hoq] at h3
        have h4 := List.all_eq_true.1 h3 e (by simpa using he)
        simp only [hb, Bool.not_true, Bool.false_or] at h4
        have := blt_lt h4
        omega
      by_cases h5 : e.on ∈ done
      · exact h5
      · exact absurd (hD.todo e.on h2 h5) h1
    rcases okPlan_all _ _ _ hD.plan q hqsz with h | ⟨c, h⟩
    · exact absurd h hq
    · rcases List.mem_cons.1 h with h | h
      · cases h; rfl
      · have := hrest _ h oq hoq
        rw [hqr] at this
        cases this

theorem DrawC.last (hD : DrawC P φ H tm tmps ops done lds [] π κ lo hi) (hn : ∀ q l, π = q :: l → q ∉ done) : π = [] := by
  cases π with
  | nil => rfl
  | cons q l =>
    obtain ⟨⟨oq, hoq, _⟩, _, _⟩ := hD.lin
    rcases okPlan_all _ _ _ hD.plan q (Array.getElem?_eq_some_iff.1 hoq).1 with h | ⟨c, h⟩
    · exact absurd h (hn q l rfl)
    · cases h

theorem planOf_inv {pl : List (Nat × List Nat)} (h : planOf ops = some pl) : saOk ops = true ∧ acyclic ops = true ∧ okPlan ops (anOf ops) [] [] pl = true := by
  unfold planOf at h
  split at h
  · cases h
  · split at h
    · rename_i hc
      cases h
      simp only [Bool.and_eq_true] at hc
      exact ⟨hc.1.1.1, hc.1.1.2, hc.2⟩
    · cases h

theorem DrawC.start {pl : List (Nat × List Nat)} (h : planOf ops = some pl) (t : Nat) (htr : TRm φ (fun _ => False) tm tmps) (lo hi : Nat) :
    DrawC P φ H tm tmps ops [] [] pl (Region.schedule true ops t) id lo hi ∧ LoadP P H tm ops [] (Region.schedule true ops t) := by
  obtain ⟨h1, h2, h3⟩ := planOf_inv h
  obtain ⟨h4, h5⟩ := lin_start ops h2 t
  refine ⟨⟨h1, h2, h3, h4, fun i hi _ => h5 i hi, fun i hi o ho => absurd (h5 i (Array.getElem?_eq_some_iff.1 ho).1) hi, fun i hi => absurd hi List.not_mem_nil, fun t v hv => (htr t v hv).imp False.elim id,
    fun i o d _ _ hi => absurd hi List.not_mem_nil, fun p _ hp => absurd hp List.not_mem_nil, fun p _ hp => absurd hp List.not_mem_nil, fun p q _ hp => absurd hp List.not_mem_nil, fun p _ hp => absurd hp List.not_mem_nil⟩, fun p _ hp => absurd hp List.not_mem_nil⟩

/-- What is told of a waiting region goes on while others write. -/
theorem DrawC.stable (hD : DrawC P φ H tm tmps ops done lds pl π κ lo hi) (hle : φ.le φ') (hk : ∀ k, k < hi → φ[k]? = some none → φ'[k]? = some none ∧ hp H' k = hp H k) :
    DrawC P φ' H' tm tmps ops done lds pl π κ lo hi :=
  ⟨hD.sa, hD.ac, hD.plan, hD.lin, hD.todo, hD.closed, hD.ready, hD.tr.mono hle, hD.dsts, fun p hp hpd op hop => by
    rcases hD.prom p hp hpd op hop with h | ⟨h1, h2, v, h3, h4⟩ | ⟨h1, hal, e, l, mk, h3, h4, h5, h6, h7, h8⟩
    · exact .inl h
    · exact .inr (.inl ⟨h1, h2, v, h3, fun q => by rw [rd_heap q]; exact h4 q⟩)
    · exact .inr (.inr ⟨h1, hal, e, l, mk, h3, (hk _ h7 h4).1, (hk _ h7 h4).2.trans h5, h6, h7, h8⟩), hD.lds, hD.inj, hD.own⟩
end
end Go.Ev
