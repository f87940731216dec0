/- The evaluator is right: what a call comes to in it, the model's call comes to. -/
import Derived.Test.YtcfpakjillacgaaGreatDoorQN
namespace Go.Ev
noncomputable section
set_option linter.unusedVariables false
open Go.RowKit (Below)
variable {P : Program} {W w w' w1 : World} {f fn : FuncId} {cs cs0 : List Frame} {r r1 : Rt} {fr fr' fr1 : Frame} {φ φ' φ1 : Phi} {H H' H1 : T OB} {nx nx' nx1 nt lo hi : Nat} {tm : T Value} {tmps : Array Value} {ops : Array Oper}
  {todo k : List Item} {c : Cg} {ds : List Deferred} {kd : Bool} {O : Cfg → Option Rt} {pl : Pol}

/-- A frame that runs has a step ahead of it. -/
theorem FinOK.peel {rc : Bool} {fr1 : Frame} (hm : fr.mode = .run) (hs : step P (lone fr (csAt rc cs0) w) = .next (lone fr1 (csAt rc cs0) w)) (h : FinOK P W kd fn lo cs0 rc φ H r fr w) : FinOK P W kd fn lo cs0 rc φ H r fr1 w := by
  obtain ⟨φ', w', frl, ⟨n, hn⟩, h2, h3, h4, h5, h6, h7, h8⟩ := h
  refine ⟨φ', w', frl, ?_, h2, h3, h4, h5, h6, h7, h8⟩
  cases n with
  | zero =>
    exfalso
    have hn : Stepped.next (lone fr (csAt rc cs0) w) = .next (lone frl (csAt r.rc cs0) w') := hn
    have e : fr.mode = frl.mode := by
      injection hn with hn
      simp only [lone] at hn
      simp_all
    rw [hm] at e
    cases hr : r.o with
    | ret v => rw [hr] at h8; obtain ⟨v', _, hg⟩ := h8; rw [hg.1] at e; cases e
    | pan v => rw [hr] at h8; obtain ⟨v', _, hg⟩ := h8; rw [hg.1] at e; cases e
  | succ n =>
    refine ⟨n, ?_⟩
    simp only [runN, hs] at hn
    exact hn

theorem pickT_get (t : Nat) (v : Value) : ∀ l : List Nat, (pickT tm l).get (bits t) = some v → tm.get (bits t) = some v
  | [], h => by rw [show pickT tm [] = .leaf from rfl, get_leaf] at h; cases h
  | s :: l, h => by
    have h : (optK (tm.get (bits s)) (fun v => setK (bits s) (pickT tm l) (some v) id) (pickT tm l)).get (bits t) = some v := h
    cases hs : tm.get (bits s) with
    | none => rw [hs] at h; exact pickT_get t v l h
    | some u =>
      have h2 : (set (pickT tm l) (bits s) (some u)).get (bits t) = some v := by
        rw [hs, optK_some, setK_set] at h
        exact h
      clear h
      rw [get_at] at h2
      split at h2
      · rename_i q; subst q; exact hs.trans h2
      · exact pickT_get t v l h2
theorem maskT_get {key : Nat} {t : Nat} {v : Value} (h : (maskT pl fn key tm).get (bits t) = some v) : tm.get (bits t) = some v := by
  unfold maskT at h
  split at h
  · exact h
  · cases hl : lookP fn key _ with
    | none => rw [hl] at h; exact h
    | some l => rw [hl] at h; exact pickT_get t v l h

theorem AtOK.mask {key : Nat} (h : AtOK P W c (maskT pl fn key tm) todo H nx r) : AtOK P W c tm todo H nx r := fun φ w lo tmps ds cs0 x htr =>
  h φ w lo tmps ds cs0 x fun t v hv => htr t v (maskT_get hv)
theorem jumpQ_ok (hO : OrcOK P W O) (todo : List Item) : KOK P W O (jumpQ pl todo) todo := fun c tm H nx r h =>
  AtOK.mask (show AtOK P W c (maskT pl c.fn (keyI todo) tm) todo H nx r from hO _ _ (run_jump h))
theorem badK_ok (todo : List Item) : KOK P W O badK todo := fun c tm H nx r h => (run_bad h).elim

def EOK (P : Program) (W : World) (O : Cfg → Option Rt) (E : List (Nat × Kt)) (k : List Item) : Prop := ∀ id, lookE id E = badK ∨ ∃ k', exitTo id k = some k' ∧ KOK P W O (lookE id E) k'
theorem EOK.skip {E : List (Nat × Kt)} {it : Item} (h : EOK P W O E k) (hit : ∀ id, exitTo id (it :: k) = exitTo id k) : EOK P W O E (it :: k) := fun j => (h j).imp (fun q => q) fun ⟨k', a, b⟩ => ⟨k', (hit j).trans a, b⟩
theorem EOK.block {E : List (Nat × Kt)} {K : Kt} {id : Nat} (h : EOK P W O E k) (hK : KOK P W O K k) : EOK P W O ((id, K) :: E) (.inBlock id :: k) := fun j => by
  have e : lookE j ((id, K) :: E) = bif Nat.beq id j then K else lookE j E := rfl
  have e2 : exitTo j (.inBlock id :: k) = if id == j then some k else exitTo j k := rfl
  rw [e, e2]
  cases hb : Nat.beq id j with
  | true =>
    have := beq_eq hb
    subst this
    exact .inr ⟨k, by simp, hK⟩
  | false =>
    have hne : (id == j) = false := by
      cases hq : id == j with
      | false => rfl
      | true => have : id = j := by simpa using hq
                subst this; rw [Nat.beq_refl] at hb; cases hb
    rw [hne]
    exact h j

theorem regQ_ok (hO : OrcOK P W O) {K : Kt} (hK : KOK P W O K k) (id : Nat) (ops : Array Oper) (draw : Bool) : KOK P W O (regQ P pl ops draw K) (.code (.region id ops draw) :: k) := fun c tm H nx r h => by
  unfold regQ at h
  rcases run_bK h with ⟨hd, h1⟩ | ⟨hd, h1⟩
  · rcases run_bK h1 with ⟨hm, h2⟩ | ⟨_, h2⟩
    · obtain ⟨p, hp, h3⟩ := run_optK h2
      subst hd
      intro φ w lo tmps ds cs0 x htr
      have hs := step_region_draw (P := P) (b := mkF (fbOf c ds) #[] []) (a := ⟨tmps, ds⟩) (k := k) (cs := csAt c.rc cs0) (w := w) (ops := ops) (id := id)
      rw [hm] at hs
      have x' : Fx P W lo cs0 c φ H nx tmps ds w.drew := ⟨x.hH.drew, x.hnx, x.hlo, x.hsz, x.hds, x.hrc⟩
      obtain ⟨h1, h2⟩ := DrawC.start (P := P) (φ := φ) (H := H) hp (w.tape w.drawn (.order (mkF (fbOf c ds) #[] []).fn id)) htr lo nx
      exact FinOK.steps (.one hs) φ.le_refl (fun _ _ q => ⟨q, rfl⟩) (stepD_ok hO hK p tm H nx φ tmps _ _ _ _ _ h3 x' h1 h2)
    · exact (run_bad h2).elim
  · subst hd
    exact (stepR_ok hO hK _ c tm H nx r h1).step1 fun ds tmps cs w => .one (step_region (b := mkF (fbOf c ds) #[] []) (a := ⟨tmps, ds⟩))

theorem stepC_ok (hO : OrcOK P W O) (cd : Code) : ∀ (k : List Item) (K : Kt) (E : List (Nat × Kt)), KOK P W O K k → EOK P W O E k → KOK P W O (stepC P pl cd k K E) (.code cd :: k) := by
  induction cd with
  | skip => exact fun k K E hK hE c tm H nx r h => (hK c tm H nx r h).step1 fun ds tmps cs w => .one (step_skip (b := mkF (fbOf c ds) #[] []) (a := ⟨tmps, ds⟩))
  | label l => exact fun k K E hK hE c tm H nx r h => (hK c tm H nx r h).step1 fun ds tmps cs w => .one (step_label (b := mkF (fbOf c ds) #[] []) (a := ⟨tmps, ds⟩))
  | ret => exact fun k K E hK hE => leaveQ_ok hO (.inr ⟨k, rfl⟩)
  | region id ops draw => exact fun k K E hK hE => regQ_ok hO hK id ops draw
  | seq a b iha ihb =>
    intro k K E hK hE c tm H nx r h
    refine AtOK.step1 (fun ds tmps cs w => .one (step_seq (b := mkF (fbOf c ds) #[] []) (a := ⟨tmps, ds⟩))) (iha (.code b :: k) _ E ?_ (hE.skip fun _ => rfl) c tm H nx r h)
    cases hq : cutQ pl a b with
    | true => exact jumpQ_ok hO _
    | false => exact ihb k K E hK hE
  | cond q a b iha ihb =>
    intro k K E hK hE c tm H nx r h φ w lo tmps ds cs0 x htr
    have h : (boolQ (eva P tm q) (stepC P pl a k K E c tm H nx) (stepC P pl b k K E c tm H nx)).run O = some r := h
    unfold boolQ at h
    split at h
    · rename_i t hx
      have he : Act.eval ⟨tmps, ds⟩ q = .bool t := by
        rw [evalA_eq]
        exact ((EvR_of x.hH.gl htr (l := [q]) noMask) q (by simp) _ hx).eq_of_flat rfl
      have hs := step_cond (P := P) (b := mkF (fbOf c ds) #[] []) (a := ⟨tmps, ds⟩) (k := k) (cs := csAt c.rc cs0) (w := w) (x := a) (y := b) he
      rcases run_bK h with ⟨rfl, h⟩ | ⟨rfl, h⟩
      · exact (iha k K E hK hE c tm H nx r h φ w lo tmps ds cs0 x htr).step1 (.one hs)
      · exact (ihb k K E hK hE c tm H nx r h φ w lo tmps ds cs0 x htr).step1 (.one hs)
    · exact (run_bad h).elim
  | block id body ih =>
    intro k K E hK hE c tm H nx r h
    refine AtOK.step1 (fun ds tmps cs w => .one (step_block (b := mkF (fbOf c ds) #[] []) (a := ⟨tmps, ds⟩))) (ih (.inBlock id :: k) K ((id, K) :: E) (fun c tm H nx r h => ?_) (hE.block hK) c tm H nx r h)
    exact (hK c tm H nx r h).step1 fun ds tmps cs w => .one (step_inBlock (b := mkF (fbOf c ds) #[] []) (a := ⟨tmps, ds⟩))
  | loop body ih =>
    intro k K E hK hE c tm H nx r h φ w lo tmps ds cs0 x htr
    have h1 := jumpQ_ok (pl := pl) hO (.inLoop body :: k) c tm H nx r h φ w lo tmps ds cs0 x htr
    exact (h1.peel rfl (step_inLoop (b := mkF (fbOf c ds) #[] []) (a := ⟨tmps, ds⟩))).step1 (.one (step_loop (b := mkF (fbOf c ds) #[] []) (a := ⟨tmps, ds⟩)))
  | scope body ih =>
    intro k K E hK hE c tm H nx r h
    refine AtOK.step1 (fun ds tmps cs w => .one (step_scope (b := mkF (fbOf c ds) #[] []) (a := ⟨tmps, ds⟩))) (ih (.inScope body :: k) K E (fun c tm H nx r h => ?_) (hE.skip fun _ => rfl) c tm H nx r h)
    exact (hK c tm H nx r h).step1 fun ds tmps cs w => .one (step_inScope (b := mkF (fbOf c ds) #[] []) (a := ⟨tmps, ds⟩))
  | exit id =>
    intro k K E hK hE c tm H nx r h
    have h : (lookE id E c tm H nx).run O = some r := h
    rcases hE id with q | ⟨k', hk', hK'⟩
    · rw [q] at h; exact (run_bad h).elim
    · exact (hK' c tm H nx r h).step1 fun ds tmps cs w => .one (step_exit (b := mkF (fbOf c ds) #[] []) (a := ⟨tmps, ds⟩) hk')
  | _ => exact fun k K E hK hE => badK_ok _

theorem evI_ok (hO : OrcOK P W O) : ∀ todo : List Item, KOK P W O (evI P pl todo).1 todo ∧ EOK P W O (evI P pl todo).2 todo
  | [] => ⟨leaveQ_ok hO (.inl rfl), fun id => .inl rfl⟩
  | it :: k => by
    obtain ⟨h1, h2⟩ := evI_ok hO k
    cases it with
    | code cd => exact ⟨stepC_ok hO cd k _ _ h1 h2, h2.skip fun _ => rfl⟩
    | inBlock id => exact ⟨fun c tm H nx r h => (h1 c tm H nx r h).step1 fun ds tmps cs w => .one (step_inBlock (b := mkF (fbOf c ds) #[] []) (a := ⟨tmps, ds⟩)), h2.block h1⟩
    | inScope b => exact ⟨fun c tm H nx r h => (h1 c tm H nx r h).step1 fun ds tmps cs w => .one (step_inScope (b := mkF (fbOf c ds) #[] []) (a := ⟨tmps, ds⟩)), h2.skip fun _ => rfl⟩
    | inLoop body => exact ⟨jumpQ_ok hO _, h2.skip fun _ => rfl⟩
    | _ => exact ⟨badK_ok _, fun id => .inl rfl⟩

theorem evAt_ok (hO : OrcOK P W O) (todo : List Item) : KOK P W O (evAt P pl todo) todo := by
  unfold evAt
  split
  · rename_i body k
    intro c tm H nx r h
    exact AtOK.step1 (fun ds tmps cs w => .one (step_inLoop (b := mkF (fbOf c ds) #[] []) (a := ⟨tmps, ds⟩))) (stepC_ok hO body _ _ _ (jumpQ_ok hO _) ((evI_ok hO k).2.skip fun _ => rfl) c tm H nx r h)
  · exact (evI_ok hO todo).1

theorem evT_ok (hO : OrcOK P W O) : ∀ q r, (evT P pl q).run O = some r → CfgOK P W q r
  | .at c tm todo H nx, r, h => evAt_ok hO todo c tm H nx r h
  | .call f args kd rp H nx, r, h => fun φ w args' cs0 hH hnx hl hrc => by
    obtain ⟨fd, hf, h⟩ := run_optK (show (optK P.funcs[f]? (fun fn => optK fn.body (fun cd => evF P pl f kd rp fn cd args H nx) .bad) .bad).run O = some r from h)
    obtain ⟨cd, hb, h⟩ := run_optK h
    unfold evF at h
    obtain ⟨hn, h⟩ := run_bif h
    have hn := ble_le hn
    obtain ⟨φ1, us, H1, nx1, h, hl1, hz⟩ := frzL_sound fd.params _ _ _ φ H nx hH hnx hl h
    rw [fromLK_fromL] at h
    have hlen := hl.len
    have hlen1 := hl1.len
    have e : Frame.enter P f args'.toArray (kindOf kd) = mkF (fbOf ⟨f, fd.ntmps, kd, [], rp, false⟩ []) (args'.toArray ++ Array.replicate (fd.ntmps - args'.toArray.size) undef) [.code cd] := by
      simp [Frame.enter, hf, hb, mkF, fbOf]
    rw [e]
    have hx : Fx P W nx cs0 ⟨f, fd.ntmps, kd, [], rp, false⟩ φ1 H1 nx1 (args'.toArray ++ Array.replicate (fd.ntmps - args'.toArray.size) undef) [] w := ⟨hz.2.1, hz.2.2.1, hz.2.2.2.2, by
      show (args'.toArray ++ Array.replicate (fd.ntmps - args'.toArray.size) undef).size = fd.ntmps
      simp only [Array.size_append, List.size_toArray, Array.size_replicate]
      omega, .nil, hrc.mono hz.1⟩
    refine hz.fin (stepC_ok hO cd [] _ [] (leaveQ_ok hO (.inl rfl)) (fun id => .inl rfl) _ _ _ _ r h φ1 w nx _ [] cs0 hx ?_)
    intro t v hv
    rw [get_fromL] at hv
    split at hv
    · rename_i ht
      rw [Nat.sub_zero] at hv
      obtain ⟨v', h1, h2⟩ := hl1.get hv
      refine .inr ⟨v', ?_, h2⟩
      have : t < args'.toArray.size := by simp; omega
      rw [Array.getElem?_append_left this]
      simpa using h1
    · rw [get_leaf] at hv; cases hv

/-! what is proved elsewhere -/
def ExtOK (P : Program) (W : World) (X : Ext) : Prop := ∀ f args v, X f args = some v → (∀ x ∈ args, flat x = true) ∧ flat v = true ∧
  ∀ w, Below W.heap.size W w → Calls P f args.toArray w fun e w' => e = .returned v ∧ Below w.heap.size w w'

theorem LR.eq_of_flat {l l' : List Value} (h : LR φ l l') (hf : ∀ x ∈ l, flat x = true) : l' = l := by
  refine List.ext_getElem? fun i => ?_
  by_cases hi : i < l.length
  · have h5 := List.getElem?_eq_getElem hi
    have h6 := List.getElem?_eq_getElem (h.len ▸ hi : i < l'.length)
    rw [h5, h6, (h.at_ i _ _ h5 h6).eq_of_flat (hf _ (List.getElem_mem hi))]
  · rw [List.getElem?_eq_none (by have := h.len; omega), List.getElem?_eq_none (by omega)]

theorem ext_ok {X : Ext} (hX : ExtOK P W X) {f : FuncId} {args : List Value} {v : Value} (h : X f args = some v) (rp : Option Value) (H : T OB) (nx : Nat) : CfgOK P W (.call f args false rp H nx) ⟨.ret v, false, H, nx⟩ := fun φ w args' cs0 hH hnx hl _ => by
  obtain ⟨h1, h2, h3⟩ := hX f args v h
  have := hl.eq_of_flat h1
  subst this
  obtain ⟨e, w', fr, ⟨he, hb⟩, hc, hfn, hlv⟩ := h3 w hH.below cs0
  subst he
  obtain ⟨a, b, hk, d⟩ := hlv
  exact ⟨φ, w', fr, hc, φ.le_refl, hH.grown hb, hnx, fun k _ q => ⟨q, rfl⟩, hk, hfn, v, .flat v h2, a, b, d⟩

theorem extQ_inv {X : Ext} {q : Cfg} {k : Option Rt} (h : extQ X q k = some r) : k = some r ∨ ∃ f args rp H nx v, q = .call f args false rp H nx ∧ X f args = some v ∧ r = ⟨.ret v, false, H, nx⟩ := by
  cases q with
  | «at» c tm todo H nx => exact .inl h
  | call f args kd rp H nx =>
    cases kd with
    | true => exact .inl h
    | false =>
      have h : @Option.rec Value (fun _ => Option Rt) k (fun v => some ⟨.ret v, false, H, nx⟩) (X f args) = some r := h
      cases hx : X f args with
      | none => rw [hx] at h; exact .inl h
      | some v => rw [hx] at h; cases h; exact .inr ⟨f, args, rp, H, nx, v, rfl, hx, rfl⟩

theorem FD_succ (pl : Pol) (X : Ext) (n : Nat) (q : Cfg) : FD P pl X (n + 1) q = extQ X q ((evT P pl q).run (FD P pl X n)) := rfl
theorem FD_ok {X : Ext} (hX : ExtOK P W X) : ∀ n, OrcOK P W (FD P pl X n)
  | 0, q, r, h => by cases h
  | n + 1, q, r, h => by
    rw [FD_succ] at h
    rcases extQ_inv h with h | ⟨f, args, rp, H, nx, v, rfl, hx, rfl⟩
    · exact evT_ok (FD_ok hX n) q r h
    · exact ext_ok hX hx rp H nx

/-! as a function, without a number of rounds -/
theorem Q.run_mono {O O' : Cfg → Option Rt} (hO : ∀ q r, O q = some r → O' q = some r) : ∀ (q : Q) (r : Rt), q.run O = some r → q.run O' = some r := by
  intro q
  induction q with
  | ret a => exact fun r h => h
  | bad => exact fun r h => h
  | jump c => exact fun r h => hO c r h
  | ask c k ih =>
    intro r h
    obtain ⟨a, h1, h2⟩ := run_ask h
    show optK (O' c) (fun a => (k a).run O') none = some r
    rw [hO c a h1]
    exact ih a r h2
theorem extQ_mono {X : Ext} {q : Cfg} {k k' : Option Rt} (hk : ∀ r, k = some r → k' = some r) (h : extQ X q k = some r) : extQ X q k' = some r := by
  cases q with
  | «at» c tm todo H nx => exact hk r h
  | call f args kd rp H nx =>
    cases kd with
    | true => exact hk r h
    | false =>
      have h : @Option.rec Value (fun _ => Option Rt) k (fun v => some ⟨.ret v, false, H, nx⟩) (X f args) = some r := h
      show @Option.rec Value (fun _ => Option Rt) k' (fun v => some ⟨.ret v, false, H, nx⟩) (X f args) = some r
      cases hx : X f args with
      | none => rw [hx] at h; exact hk r h
      | some v => rw [hx] at h; exact h
theorem FD_mono1 {X : Ext} : ∀ (n : Nat) (q : Cfg) (r : Rt), FD P pl X n q = some r → FD P pl X (n + 1) q = some r
  | 0, q, r, h => by cases h
  | n + 1, q, r, h => by
    rw [FD_succ] at h ⊢
    exact extQ_mono (fun r h => Q.run_mono (FD_mono1 n) _ r h) h
theorem FD_mono {X : Ext} {n m : Nat} (hn : n ≤ m) {q : Cfg} {r : Rt} (h : FD P pl X n q = some r) : FD P pl X m q = some r := by
  induction hn with
  | refl => exact h
  | step _ ih => exact FD_mono1 _ q r ih
open Classical in
def F (P : Program) (pl : Pol) (X : Ext) (q : Cfg) : Option Rt := if h : ∃ r n, FD P pl X n q = some r then some h.choose else none
theorem F_iff {X : Ext} {q : Cfg} : F P pl X q = some r ↔ ∃ n, FD P pl X n q = some r := by
  unfold F
  constructor
  · intro h
    split at h
    · rename_i hx
      cases h
      exact hx.choose_spec
    · cases h
  · rintro ⟨n, hn⟩
    have hx : ∃ r n, FD P pl X n q = some r := ⟨r, n, hn⟩
    rw [dif_pos hx]
    obtain ⟨m, hm⟩ := hx.choose_spec
    have h1 := FD_mono (Nat.le_max_left n m) hn
    have h2 := FD_mono (Nat.le_max_right n m) hm
    rw [h1] at h2
    cases h2
    rfl
theorem Q.run_lim {X : Ext} : ∀ (q : Q) (r : Rt), q.run (F P pl X) = some r → ∃ n, q.run (FD P pl X n) = some r := by
  intro q
  induction q with
  | ret a => exact fun r h => ⟨0, h⟩
  | bad => exact fun r h => (run_bad h).elim
  | jump c => exact fun r h => F_iff.1 h
  | ask c k ih =>
    intro r h
    obtain ⟨a, h1, h2⟩ := run_ask h
    obtain ⟨n, hn⟩ := F_iff.1 h1
    obtain ⟨m, hm⟩ := ih a r h2
    refine ⟨max n m, ?_⟩
    show optK (FD P pl X (max n m) c) (fun a => (k a).run (FD P pl X (max n m))) none = some r
    rw [FD_mono (Nat.le_max_left n m) hn]
    exact Q.run_mono (fun q r h => FD_mono (Nat.le_max_right n m) h) _ r hm
/-- What comes of a call is what its code says. -/
theorem F_eq {X : Ext} (q : Cfg) : F P pl X q = extQ X q ((evT P pl q).run (F P pl X)) := by
  have up : ∀ r, F P pl X q = some r → extQ X q ((evT P pl q).run (F P pl X)) = some r := fun r h => by
    obtain ⟨n, hn⟩ := F_iff.1 h
    cases n with
    | zero => cases hn
    | succ n =>
      rw [FD_succ] at hn
      exact extQ_mono (fun r h => Q.run_mono (fun q r h => F_iff.2 ⟨n, h⟩) _ r h) hn
  have down : ∀ r, extQ X q ((evT P pl q).run (F P pl X)) = some r → F P pl X q = some r := fun r h => by
    rcases extQ_inv h with h | ⟨f, args, rp, H, nx, v, rfl, hx, rfl⟩
    · obtain ⟨n, hn⟩ := Q.run_lim _ r h
      cases hF : extQ X q ((evT P pl q).run (FD P pl X n)) with
      | none =>
        exfalso
        rw [hn] at hF
        cases q with
        | «at» c tm todo H nx => cases hF
        | call f args kd rp H nx =>
          cases kd with
          | true => cases hF
          | false =>
            have hF : @Option.rec Value (fun _ => Option Rt) (some r) (fun v => some ⟨.ret v, false, H, nx⟩) (X f args) = none := hF
            cases hx : X f args <;> rw [hx] at hF <;> cases hF
      | some r' =>
        have h1 : F P pl X q = some r' := F_iff.2 ⟨n + 1, by rw [FD_succ]; exact hF⟩
        have h2 := up r' h1
        have h3 : extQ X q ((evT P pl q).run (F P pl X)) = some r := by assumption
        rw [h2] at h3
        cases h3
        exact h1
    · refine F_iff.2 ⟨1, ?_⟩
      rw [FD_succ]
      show @Option.rec Value (fun _ => Option Rt) _ (fun v => some ⟨.ret v, false, H, nx⟩) (X f args) = _
      rw [hx]
  cases h : F P pl X q with
  | some r => exact (up r h).symm
  | none =>
    cases h2 : extQ X q ((evT P pl q).run (F P pl X)) with
    | none => rfl
    | some r => rw [down r h2] at h; cases h
theorem F_of {X : Ext} {n : Nat} {q : Cfg} (h : FD P pl X n q = some r) : F P pl X q = some r := F_iff.2 ⟨n, h⟩

/-- A call. -/
theorem calls_of_F {X : Ext} (hX : ExtOK P W X) {f : FuncId} {args args' : List Value} {v : Value} {H' : T OB} {nx' : Nat} (hH : HR P W φ (hp H) W) (hnx : φ.length = nx) (hl : LR φ args args') (hv : flat v = true)
    (h : F P pl X (.call f args false none H nx) = some ⟨.ret v, false, H', nx'⟩) : Calls P f args'.toArray W fun e w' => e = .returned v ∧ Below W.heap.size W w' := by
  intro cs
  obtain ⟨n, hn⟩ := F_iff.1 h
  obtain ⟨φ1, w1, frl, s1, hle, hH1, hl1, hk1, hkk, hff, v', hv', hg⟩ := FD_ok hX n _ _ hn φ W args' cs hH hnx hl (fun q => by cases q)
  have := hv'.eq_of_flat hv
  subst this
  obtain ⟨a, b, d⟩ := hg
  exact ⟨.returned v', w1, frl, ⟨rfl, hH1.below⟩, s1, hff, a, b, hkk, d⟩
end
end Go.Ev
