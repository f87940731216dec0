/- How what a function's code says is told and used. -/
import Derived.Test.YtcfpakjillacgaaGreatDoorQO
import Derived.Laws.Strings
namespace Go.Ev
noncomputable section
set_option linter.unusedVariables false
/-- Temporaries, told one by one. -/
def tmOf (l : List (Nat × Value)) : T Value := @List.rec (Nat × Value) (fun _ => T Value) .leaf (fun p _ ih => setK (bits p.1) ih (some p.2) id) l
def cutsOf (cd : Code) : List Item → List (List Item) :=
  @Code.rec (fun _ => List Item → List (List Item)) (fun _ => []) (fun _ _ _ _ => []) (fun _ b iha ihb k => iha (.code b :: k) ++ ((.code b :: k) :: ihb k)) (fun _ _ _ iha ihb k => iha k ++ ihb k) (fun id _ ih k => ih (.inBlock id :: k))
    (fun b ih k => (.inLoop b :: k) :: ih (.inLoop b :: k)) (fun _ _ _ _ _ _ _ => []) (fun _ _ => []) (fun b ih k => ih (.inScope b :: k)) (fun _ _ => []) (fun _ _ => []) (fun _ => []) (fun _ _ => []) cd
def pickI (key : Nat) (l : List (List Item)) : List Item := @List.rec (List Item) (fun _ => List Item) [] (fun t _ ih => bif Nat.beq (keyI t) key then t else ih) l
def todoOf (P : Program) (f : FuncId) (key : Nat) : List Item := match P.funcs[f]? with
  | some fn => (match fn.body with
    | some cd => pickI key (cutsOf cd [])
    | none => [])
  | none => []
def frSt (P : Program) (H : T OB) (nx : Nat) (t : TypeId) (a : Option Value) (v : Value) (k : T OB → Nat → Q) : Q :=
  ptrQ a fun b off => cellsQ (H.get (bits b)) fun n _ _ => optK (szOf P t) (fun s =>
    bif Nat.beq off 0 && (Nat.beq n s && (Nat.beq v.cells.toList.length s && v.cells.toList.all oneCell)) then setK (bits b) H (some .dead) fun H => natF (Nat.succ nx) fun n => k H n else .bad) .bad

variable {P : Program} {pl : Pol} {X : Ext} {H H0 H1 : T OB} {nx nx0 nx1 : Nat} {v u : Value} {R : Value → T OB → Nat → Prop}
/-- What was there is as it was. -/
def Ag (nx0 : Nat) (H0 : T OB) (nx : Nat) (H : T OB) : Prop := nx0 ≤ nx ∧ ∀ k, k < nx0 → hp H k = hp H0 k
theorem Ag.refl (nx : Nat) (H : T OB) : Ag nx H nx H := ⟨Nat.le_refl _, fun _ _ => rfl⟩
theorem Ag.trans (h : Ag nx0 H0 nx H) (h' : Ag nx H nx1 H1) : Ag nx0 H0 nx1 H1 := ⟨Nat.le_trans h.1 h'.1, fun k hk => (h'.2 k (Nat.lt_of_lt_of_le hk h.1)).trans (h.2 k hk)⟩
theorem Ag.set (h : Ag nx0 H0 nx H) {b : Nat} (hb : nx0 ≤ b) (x : Option OB) : Ag nx0 H0 nx (Ev.set H (bits b) x) := ⟨h.1, fun k hk => by rw [hp_set, upd_other _ (by omega)]; exact h.2 k hk⟩
theorem Ag.succ (h : Ag nx0 H0 nx H) : Ag nx0 H0 (nx + 1) H := ⟨Nat.le_succ_of_le h.1, h.2⟩
/-- A tree of questions comes to a value such as is told; what was there stays. -/
def WqR (P : Program) (pl : Pol) (X : Ext) (q : Q) (nx0 : Nat) (H0 : T OB) (R : Value → T OB → Nat → Prop) : Prop := ∃ v H' nx', Ag nx0 H0 nx' H' ∧ R v H' nx' ∧ q.run (F P pl X) = some ⟨.ret v, false, H', nx'⟩
/-- A tree of questions comes to a value, and what was there stays. -/
abbrev Wq (P : Program) (pl : Pol) (X : Ext) (q : Q) (nx0 : Nat) (H0 : T OB) (v : Value) : Prop := WqR P pl X q nx0 H0 fun u _ _ => u = v
/-- A function that answers, and leaves what was there. -/
def Pure (P : Program) (pl : Pol) (X : Ext) (f : FuncId) (args : List Value) (v : Value) : Prop := ∀ H nx, ∃ H' nx', Ag nx H nx' H' ∧ F P pl X (.call f args false none H nx) = some ⟨.ret v, false, H', nx'⟩
theorem Pure.of {f : FuncId} {args : List Value} (hx : X f args = none) (h : ∀ H nx, Wq P pl X (evT P pl (.call f args false none H nx)) nx H v) : Pure P pl X f args v := fun H nx => by
  obtain ⟨_, H', nx', h1, rfl, h2⟩ := h H nx
  refine ⟨H', nx', h1, ?_⟩
  rw [F_eq]
  show @Option.rec Value (fun _ => Option Rt) _ (fun v => some ⟨.ret v, false, H, nx⟩) (X f args) = _
  rw [hx]
  exact h2
theorem Pure.ext {f : FuncId} {args : List Value} (hx : X f args = some v) : Pure P pl X f args v := fun H nx => ⟨H, nx, .refl _ _, by
  rw [F_eq]
  show @Option.rec Value (fun _ => Option Rt) _ (fun v => some ⟨.ret v, false, H, nx⟩) (X f args) = _
  rw [hx]⟩
theorem Wq.ret (h : Ag nx0 H0 nx H) : Wq P pl X (.ret ⟨.ret v, false, H, nx⟩) nx0 H0 v := ⟨v, H, nx, h, rfl, rfl⟩
theorem Wq.retR (h : Ag nx0 H0 nx H) (hR : R v H nx) : WqR P pl X (.ret ⟨.ret v, false, H, nx⟩) nx0 H0 R := ⟨v, H, nx, h, hR, rfl⟩
theorem Wq.jump {q : Cfg} (hq : ∀ k, extQ X q k = k) (h : WqR P pl X (evT P pl q) nx0 H0 R) : WqR P pl X (.jump q) nx0 H0 R := by
  obtain ⟨v, H', nx', h1, hR, h2⟩ := h
  refine ⟨v, H', nx', h1, hR, ?_⟩
  show F P pl X q = _
  rw [F_eq, hq]
  exact h2
theorem Wq.call {g : FuncId} {args : List Value} {k p : Value → T OB → Nat → Q} (hg : Pure P pl X g args u) (h : Ag nx0 H0 nx H) (hk : ∀ H' nx', Ag nx0 H0 nx' H' → WqR P pl X (k u H' nx') nx0 H0 R) :
    WqR P pl X (callQ (.call g args false none H nx) k p) nx0 H0 R := by
  obtain ⟨H1, nx1, h1, h2⟩ := hg H nx
  obtain ⟨v, H2, nx2, h3, hR, h4⟩ := hk H1 nx1 (h.trans h1)
  refine ⟨v, H2, nx2, h3, hR, ?_⟩
  show optK (F P pl X (.call g args false none H nx)) (fun r => (match r.o with | .ret v => k v r.H r.nx | .pan v => p v r.H r.nx : Q).run (F P pl X)) none = _
  rw [h2]
  exact h4
theorem effQ_alloc {e : TypeId} {l : List Value} {k : Value → T OB → Nat → Q} (hz : zeroC P e = some l) : effQ (efAlloc P H nx e) k = k (ptrAt nx) (Ev.set H (bits nx) (some (newOB l e))) (nx + 1) := by
  unfold efAlloc
  rw [hz, optK_some, newK_eq]
  rfl
/-- A variable that is written once. -/
theorem Wq.var {e t : TypeId} {l : List Value} {s : Nat} {x : Value} {k : T OB → Nat → Q} (hz : zeroC P e = some l) (hs : szOf P t = some s) (hl : l.length = s) (hx : x.cells.toList.length = s) (hone : x.cells.toList.all oneCell = true)
    (h : Ag nx0 H0 nx H) (hk : ∀ H' nx', Ag nx0 H0 nx' H' → WqR P pl X (k H' nx') nx0 H0 R) : WqR P pl X (effQ (efAlloc P H nx e) fun p H nx => frSt P H nx t (some p) x k) nx0 H0 R := by
  rw [effQ_alloc hz]
  have hg : (Ev.set H (bits nx) (some (newOB l e))).get (bits nx) = some (newOB l e) := by rw [get_at, if_pos rfl]
  have e1 : frSt P (Ev.set H (bits nx) (some (newOB l e))) (nx + 1) t (some (ptrAt nx)) x k = k (Ev.set (Ev.set H (bits nx) (some (newOB l e))) (bits nx) (some .dead)) (nx + 1 + 1) := by
    show cellsQ ((Ev.set H (bits nx) (some (newOB l e))).get (bits nx)) (fun n _ _ => optK (szOf P t) (fun s => bif Nat.beq 0 0 && (Nat.beq n s && (Nat.beq x.cells.toList.length s && x.cells.toList.all oneCell)) then
      setK (bits nx) (Ev.set H (bits nx) (some (newOB l e))) (some .dead) fun H => natF (Nat.succ (nx + 1)) fun n => k H n else .bad) .bad) = _
    rw [hg]
    show optK (szOf P t) (fun s => bif Nat.beq 0 0 && (Nat.beq l.length s && (Nat.beq x.cells.toList.length s && x.cells.toList.all oneCell)) then
      setK (bits nx) (Ev.set H (bits nx) (some (newOB l e))) (some .dead) fun H => natF (Nat.succ (nx + 1)) fun n => k H n else .bad) .bad = _
    rw [hs, optK_some, hl, hx, hone, setK_set, natF_eq]
    have e2 : Nat.beq s s = true := Nat.beq_refl s
    rw [e2]
    rfl
  rw [e1]
  exact hk _ _ ((((h.set h.1 _).succ).set h.1 _).succ)
theorem Wq.natF {k : Nat → Q} (hk : WqR P pl X (k (nx + 1)) nx0 H0 R) : WqR P pl X (Ev.natF (Nat.succ nx) k) nx0 H0 R := by rw [natF_eq]; exact hk

/-! reading -/
@[simp] theorem nonneg_cast (n : Nat) : nonneg (n : Int) = true := rfl
theorem rdLoad_ep (t : TypeId) (u : Value) : rdLoad P H t (some (eptrV u)) = ldV (aggQ P t) (szOf P t) u := rfl
theorem ldV_agg (l : List Value) (s : Nat) (h : l.length = s) : ldV (some true) (some s) (.agg ⟨l⟩) = some (.agg ⟨l⟩) := by
  subst h
  show (bif true && Nat.beq l.length l.length then some (Value.agg ⟨l⟩) else none) = _
  rw [Nat.beq_refl]; rfl
@[simp] theorem ldV_int (k : IntKind) (n : Int) : ldV (some false) (some 1) (.int k n) = some (.int k n) := rfl
@[simp] theorem ldV_str (s : ByteArray) : ldV (some false) (some 1) (.string s) = some (.string s) := rfl
@[simp] theorem ldV_bool (s : Bool) : ldV (some false) (some 1) (.bool s) = some (.bool s) := rfl
@[simp] theorem ldV_row (s : Nat) (es : List Value) : ldV (some false) (some 1) (rowV s es) = some (rowV s es) := rfl
@[simp] theorem ldV_ep (u : Value) : ldV (some false) (some 1) (eptrV u) = some (eptrV u) := rfl
@[simp] theorem ldV_nilp : ldV (some false) (some 1) (.pointer none) = some (.pointer none) := rfl
theorem rdIndex_row {t : TypeId} {s : Nat} {es : List Value} {i : Nat} {u : Value} (hs : elSz P t = some s) (hi : es[i]? = some u) (k : IntKind) : rdIndexAddr P t (some (rowV s es)) (some (.int k (i : Int))) = some (eptrV u) := by
  show intNK (i : Int) (rdIA P t (some (rowV s es))) none = _
  rw [intNK_ofNat]
  show idxV (elSz P t) s es i = _
  unfold idxV
  rw [hs, optK_some, Nat.beq_refl, hi]
  rfl
theorem rdLen_row {t ty : TypeId} (s : Nat) (es : List Value) (h : isSliceT P (some t) = true) : rdLen P #[t] ty (some [rowV s es]) = some (.int .i64 (es.length : Int)) := by
  show (bif isSliceT P (some t) then some (Value.int .i64 (.ofNat es.length)) else none) = _
  rw [h]; rfl

theorem pureRun_bind {α β : Type} (s : Sem α) (f : α → Sem β) : pureRun P (s >>= f) = (pureRun P s).bind fun a => pureRun P (f a) := by
  show pureRun P (s.bind f) = _
  induction s with
  | pure a => rfl
  | program k ih => exact ih P
  | mark m k ih => exact ih
  | _ => rfl
theorem pureRun_und {t : TypeId} {d : TypeDesc} (hu : P.underlying t = some d) : pureRun P (underlying t) = some d := by
  unfold underlying
  simp only [pureRun_bind, program, pureRun, Option.bind_some, hu]
  rfl
theorem rdLen_str {t ty : TypeId} (s : ByteArray) (hu : P.underlying t = some .string) : rdLen P #[t] ty (some [.string s]) = some (.int .i64 (s.size : Int)) := by
  show bltV P .len #[t] ty (some [.string s]) = _
  show (bif true && true then nextV (pureRun P (builtin .len #[t] ty #[] ⟨[.string s]⟩)) else none) = _
  have e : pureRun P (builtin .len #[t] ty #[] ⟨[.string s]⟩) = some (.value (.int .i64 (s.size : Int))) := by
    simp only [builtin, Builtin.len_]
    simp [pureRun_bind, pureRun_und hu, goInt]
    rfl
  rw [e]
  show (valF (.int .i64 (s.size : Int)) fun v => bif flat v then some v else none) = _
  rw [valF_eq]; rfl
@[simp] theorem oneCell_int (k : IntKind) (n : Int) : oneCell (.int k n) = true := rfl
@[simp] theorem oneCell_str (s : ByteArray) : oneCell (.string s) = true := rfl
@[simp] theorem oneCell_bool (b : Bool) : oneCell (.bool b) = true := rfl
@[simp] theorem oneCell_row (s : Nat) (es : List Value) : oneCell (rowV s es) = true := rfl
@[simp] theorem oneCell_ep (u : Value) : oneCell (eptrV u) = true := rfl
@[simp] theorem oneCell_nilp : oneCell (.pointer none) = true := rfl
/-! numbers -/
theorem fV_pure {w : Value} (h : flat w = true) : fV P (pure w) = some w := by
  show (valF w fun v => bif flat v then some v else none) = _
  rw [valF_eq, h]; rfl

theorem binV_int (op : BinOp) (t : TypeId) (k : IntKind) (a b : Int) : binV P op t (.int k a) (.int k b) = fV P (binOp op t (.int k a) (.int k b)) := by cases op <;> rfl
theorem rdBin_flat {op : BinOp} {t : TypeId} {q : Bool} {a b : Value} (ha : flat a = true) (hb : flat b = true) (hq : isNI a = false) (hg : isAggV a = false) : rdBin P H op t q (some a) (some b) = binV P op t a b := by
  have e : rdBin P H op t q (some a) (some b) = rdBin2 P H op t q a b := by cases a <;> first | rfl | cases hg
  rw [e]
  show (bif flat a && flat b then (bif q || !(isNI a && isNI b) then binV P op t a b else none) else rdPtr P H op t a b) = _
  rw [ha, hb, hq]
  cases q <;> rfl
theorem rdBin_int (op : BinOp) (t : TypeId) (q : Bool) (k : IntKind) (a b : Int) : rdBin P H op t q (some (.int k a)) (some (.int k b)) = fV P (binOp op t (.int k a) (.int k b)) := by
  rw [rdBin_flat rfl rfl rfl rfl, binV_int]
@[simp] theorem rdBin_add (t : TypeId) (q : Bool) (k : IntKind) (a b : Int) : rdBin P H .add t q (some (.int k a)) (some (.int k b)) = some (.int k (k.wrap (a + b))) := by
  rw [rdBin_int]
  have e : binOp .add t (.int k a) (.int k b) = pure (.int k (k.wrap (a + b))) := by simp [binOp, Op.intArith]
  rw [e]; exact fV_pure rfl
@[simp] theorem rdBin_sub (t : TypeId) (q : Bool) (k : IntKind) (a b : Int) : rdBin P H .sub t q (some (.int k a)) (some (.int k b)) = some (.int k (k.wrap (a - b))) := by
  rw [rdBin_int]
  have e : binOp .sub t (.int k a) (.int k b) = pure (.int k (k.wrap (a - b))) := by simp [binOp, Op.intArith]
  rw [e]; exact fV_pure rfl
@[simp] theorem rdBin_mul (t : TypeId) (q : Bool) (k : IntKind) (a b : Int) : rdBin P H .mul t q (some (.int k a)) (some (.int k b)) = some (.int k (k.wrap (a * b))) := by
  rw [rdBin_int]
  have e : binOp .mul t (.int k a) (.int k b) = pure (.int k (k.wrap (a * b))) := by simp [binOp, Op.intArith]
  rw [e]; exact fV_pure rfl
theorem rdBin_quo (t : TypeId) (q : Bool) (k : IntKind) (a b : Int) (hb : b ≠ 0) : rdBin P H .quo t q (some (.int k a)) (some (.int k b)) = some (.int k (k.wrap (a.tdiv b))) := by
  rw [rdBin_int]
  have e : binOp .quo t (.int k a) (.int k b) = pure (.int k (k.wrap (a.tdiv b))) := by simp [binOp, Op.intDiv, hb]
  rw [e]; exact fV_pure rfl
theorem rdBin_rem (t : TypeId) (q : Bool) (k : IntKind) (a b : Int) (hb : b ≠ 0) : rdBin P H .rem t q (some (.int k a)) (some (.int k b)) = some (.int k (a.tmod b)) := by
  rw [rdBin_int]
  have e : binOp .rem t (.int k a) (.int k b) = pure (.int k (a.tmod b)) := by simp [binOp, Op.intDiv, hb]
  rw [e]; exact fV_pure rfl
@[simp] theorem rdBin_lss (t : TypeId) (q : Bool) (k : IntKind) (a b : Int) : rdBin P H .lss t q (some (.int k a)) (some (.int k b)) = some (.bool (decide (a < b))) := by
  rw [rdBin_int]
  have e : binOp .lss t (.int k a) (.int k b) = pure (.bool (decide (a < b))) := by simp [binOp, Op.intCmp]
  rw [e]; exact fV_pure rfl
@[simp] theorem rdBin_leq (t : TypeId) (q : Bool) (k : IntKind) (a b : Int) : rdBin P H .leq t q (some (.int k a)) (some (.int k b)) = some (.bool (decide (a ≤ b))) := by
  rw [rdBin_int]
  have e : binOp .leq t (.int k a) (.int k b) = pure (.bool (decide (a ≤ b))) := by simp [binOp, Op.intCmp]
  rw [e]; exact fV_pure rfl
@[simp] theorem rdBin_gtr (t : TypeId) (q : Bool) (k : IntKind) (a b : Int) : rdBin P H .gtr t q (some (.int k a)) (some (.int k b)) = some (.bool (decide (b < a))) := by
  rw [rdBin_int]
  have e : binOp .gtr t (.int k a) (.int k b) = pure (.bool (decide (b < a))) := by simp [binOp, Op.intCmp]
  rw [e]; exact fV_pure rfl
@[simp] theorem rdBin_geq (t : TypeId) (q : Bool) (k : IntKind) (a b : Int) : rdBin P H .geq t q (some (.int k a)) (some (.int k b)) = some (.bool (decide (b ≤ a))) := by
  rw [rdBin_int]
  have e : binOp .geq t (.int k a) (.int k b) = pure (.bool (decide (b ≤ a))) := by simp [binOp, Op.intCmp]
  rw [e]; exact fV_pure rfl
@[simp] theorem rdBin_eql (t : TypeId) (q : Bool) (k : IntKind) (a b : Int) : rdBin P H .eql t q (some (.int k a)) (some (.int k b)) = some (.bool (decide (a = b))) := by
  rw [rdBin_int]
  have e : binOp .eql t (.int k a) (.int k b) = pure (.bool (decide (a = b))) := by simp [binOp, Op.intCmp]; rfl
  rw [e]; exact fV_pure rfl
@[simp] theorem rdBin_neq (t : TypeId) (q : Bool) (k : IntKind) (a b : Int) : rdBin P H .neq t q (some (.int k a)) (some (.int k b)) = some (.bool (!decide (a = b))) := by
  rw [rdBin_int]
  have e : binOp .neq t (.int k a) (.int k b) = pure (.bool (!decide (a = b))) := by simp [binOp, Op.intCmp]; rfl
  rw [e]; exact fV_pure rfl
theorem beqL (a b : ByteArray) : (a.toList == b.toList) = decide (a = b) := by
  rw [ByteArray.toList_eq, ByteArray.toList_eq]
  obtain ⟨⟨x⟩⟩ := a
  obtain ⟨⟨y⟩⟩ := b
  rw [Bool.eq_iff_iff]
  simp
theorem beqI (a b : Int) : (a == b) = decide (a = b) := by rw [Bool.eq_iff_iff]; simp
theorem rdBuild_of {t : TypeId} {z l : List Value} {vs : List (Nat × Value)} (hz : zeroC P t = some z) (hb : P.built t vs = some ⟨l⟩) : rdBuild P t (some vs) = some (.agg ⟨l⟩) := by
  show optK (zeroC P t) (fun _ => optK (P.built t vs) (fun cs => valF (.agg cs) some) none) none = _
  rw [hz, optK_some, hb, optK_some, valF_eq]
@[simp] theorem rdBin_seql (t : TypeId) (q : Bool) (a b : ByteArray) : rdBin P H .eql t q (some (.string a)) (some (.string b)) = some (.bool (decide (a = b))) := by
  rw [rdBin_flat rfl rfl rfl rfl]
  have e : binV P .eql t (.string a) (.string b) = fV P (binOp .eql t (.string a) (.string b)) := rfl
  rw [e, binOp_string_eql, beqL]; exact fV_pure rfl
@[simp] theorem rdBin_sneq (t : TypeId) (q : Bool) (a b : ByteArray) : rdBin P H .neq t q (some (.string a)) (some (.string b)) = some (.bool (!decide (a = b))) := by
  rw [rdBin_flat rfl rfl rfl rfl]
  have e : binV P .neq t (.string a) (.string b) = fV P (binOp .neq t (.string a) (.string b)) := rfl
  rw [e, binOp_string_neq, beqL]; exact fV_pure rfl
theorem rdBin_sadd (t : TypeId) (q : Bool) (a b : ByteArray) (h : a.size + b.size ≤ 9223372036854775807) : rdBin P H .add t q (some (.string a)) (some (.string b)) = some (.string (a ++ b)) := by
  rw [rdBin_flat rfl rfl rfl rfl]
  have e : binV P .add t (.string a) (.string b) = fV P (binOp .add t (.string a) (.string b)) := rfl
  have e2 : Op.stringOp .add a b = pure (.string (a ++ b)) := by
    simp only [Op.stringOp]
    rw [if_neg]
    have : IntKind.i64.max = 9223372036854775807 := by decide
    rw [this]
    omega
  rw [e, binOp_string_add, e2]; exact fV_pure rfl
theorem rdBin_agg {op : BinOp} {t : TypeId} {q : Bool} {l m : List Value} {ks : List Nat} (hk : plainK P t = some ks) : rdBin P H op t q (some (.agg ⟨l⟩)) (some (.agg ⟨m⟩)) = optK (aggEq ks l m) (eqB op) none := by
  show rdAgg (plainK P t) op l m _ = _
  rw [hk]
  rfl
@[simp] theorem unV_not (b : Bool) : unV P .not (some (.bool b)) = some (.bool (!b)) := by cases b <;> rfl
@[simp] theorem bvK_bool {β : Type} (b : Bool) (k : Bool → β) (bad : β) : bvK (.bool b) k bad = k b := rfl
theorem wrap_id {n : Int} (h : -9223372036854775808 ≤ n ∧ n < 9223372036854775808) : IntKind.i64.wrap n = n := by
  unfold IntKind.wrap
  have : IntKind.i64.bits = 64 := rfl
  have : IntKind.i64.signed = true := rfl
  simp only [*, Bool.true_and]
  split
  · rename_i h'
    simp only [decide_eq_true_eq] at h'
    omega
  · rename_i h'
    simp only [decide_eq_true_eq] at h'
    omega

/-! steps of a proof: what was there stays is carried along -/
theorem Wq.bK {b : Bool} {x y : Q} (h : b = true → WqR P pl X x nx0 H0 R) (h' : b = false → WqR P pl X y nx0 H0 R) : WqR P pl X (Ev.bK b x y) nx0 H0 R := by
  cases b
  · exact h' rfl
  · exact h rfl
theorem Wq.ite {p : Prop} [Decidable p] {x y : Q} (h : p → WqR P pl X x nx0 H0 R) (h' : ¬p → WqR P pl X y nx0 H0 R) : WqR P pl X (Ev.bK (decide p) x y) nx0 H0 R :=
  Wq.bK (fun q => h (of_decide_eq_true q)) (fun q => h' (of_decide_eq_false q))
theorem Wq.natF' {k : Nat → Q} (h : Ag nx0 H0 nx H) (hk : Ag nx0 H0 (nx + 1) H → WqR P pl X (k (nx + 1)) nx0 H0 R) : WqR P pl X (Ev.natF (Nat.succ nx) k) nx0 H0 R := Wq.natF (hk h.succ)
/-- An append to nothing, or to what an append made. -/
theorem effQ_app0 {t e : TypeId} {s : Nat} {xs : List Value} {l : List Value} {k : Value → T OB → Nat → Q} (hu : P.underlying t = some (.slice e)) (hs : szOf P e = some s) (hl : l = xs.flatMap fun u => u.cells.toList) (hsm : apSmall P e s xs.length = true) :
    effQ (efAppS P H nx [t, t] (some [.slice none 0 0, rowV s xs])) k = (match xs with | [] => k (.slice none 0 0) H nx | _ => k (.slice (some ⟨nx, 0, none⟩) xs.length unk) (Ev.set H (bits nx) (some (newOB l e))) (nx + 1)) := by
  subst hl
  have e1 : efAppS P H nx [t, t] (some [.slice none 0 0, rowV s xs]) = efAppend P H nx [t, t] (some [.slice none 0 0, rowV s xs]) := rfl
  have e2 : efAppend P H nx [t, t] (some [.slice none 0 0, rowV s xs]) = (bif !Nat.beq t t then .bad else sliceTK P t (fun e s' => optK (xsOf H s' (rowV s xs)) (fun p => bif apSmall P e s' (0 + p.1) then apGo P H nx e s' none 0 0 p.1 p.2 else .bad) .bad) .bad) := rfl
  have e3 : sliceTK P t (fun e s' => optK (xsOf H s' (rowV s xs)) (fun p => bif apSmall P e s' (0 + p.1) then apGo P H nx e s' none 0 0 p.1 p.2 else .bad) .bad) .bad = optK (xsOf H s (rowV s xs)) (fun p => bif apSmall P e s (0 + p.1) then apGo P H nx e s none 0 0 p.1 p.2 else .bad) .bad := by
    unfold sliceTK; rw [hu]; simp only; rw [hs]; rfl
  have e4 : xsOf H s (rowV s xs) = some (xs.length, xs.flatMap fun u => u.cells.toList) := by
    show (bif Nat.beq s s then some (xs.length, xs.flatMap fun u => u.cells.toList) else none) = _
    rw [Nat.beq_refl]; rfl
  rw [e1, e2, Nat.beq_refl, show (bif !true then Eff.bad else _) = _ from rfl, e3, e4, optK_some, Nat.zero_add, hsm]
  show effQ (bif Nat.beq 0 0 && Nat.beq 0 0 then (bif Nat.beq xs.length 0 then Eff.val (.slice none 0 0) H nx else apNew H nx e xs.length (xs.flatMap fun u => u.cells.toList)) else .bad) k = _
  cases xs with
  | nil => rfl
  | cons x xs =>
    show effQ (apNew H nx e (x :: xs).length ((x :: xs).flatMap fun u => u.cells.toList)) k = _
    rw [newK_mk]
    rfl

/-! rounds -/
/-- A loop that goes up to 'n', with something that it carries. -/
theorem Wq.up {σ : Type} (n : Nat) (q : Nat → σ → T OB → Nat → Q) (r : Nat → σ → Value) (hend : ∀ s H1 nx1, Ag nx0 H0 nx1 H1 → Wq P pl X (q n s H1 nx1) nx0 H0 (r n s))
    (hstep : ∀ i s H1 nx1, i < n → (∀ s H2 nx2, Ag nx0 H0 nx2 H2 → Wq P pl X (q (i + 1) s H2 nx2) nx0 H0 (r (i + 1) s)) → Ag nx0 H0 nx1 H1 → Wq P pl X (q i s H1 nx1) nx0 H0 (r i s)) :
    ∀ (i : Nat) (s : σ) (H1 : T OB) (nx1 : Nat), i ≤ n → Ag nx0 H0 nx1 H1 → Wq P pl X (q i s H1 nx1) nx0 H0 (r i s) := by
  have h : ∀ (d i : Nat), n - i = d → i ≤ n → ∀ (s : σ) (H1 : T OB) (nx1 : Nat), Ag nx0 H0 nx1 H1 → Wq P pl X (q i s H1 nx1) nx0 H0 (r i s) := by
    intro d
    induction d with
    | zero => intro i hd hi s H1 nx1 hA; obtain rfl : i = n := by omega
              exact hend s H1 nx1 hA
    | succ d ih => intro i hd hi s H1 nx1 hA; exact hstep i s H1 nx1 (by omega) (fun s H2 nx2 h => ih (i + 1) (by omega) (by omega) s H2 nx2 h) hA
  exact fun i s H1 nx1 hi hA => h (n - i) i rfl hi s H1 nx1 hA

/-! variables in memory -/
/-- A block holds these cells. -/
def IsB (H : T OB) (b : Nat) (l : List Value) (e : TypeId) : Prop := ∃ tr, H.get (bits b) = some (.cells l.length tr e) ∧ ∀ i, i < l.length → tr.get (bits i) = l[i]?
theorem IsB.new (l : List Value) (e : TypeId) : IsB (Ev.set H (bits nx) (some (newOB l e))) nx l e := ⟨_, by rw [get_at, if_pos rfl]; rfl, fun i hi => get_newOB l i hi⟩
theorem IsB.other {b : Nat} {l : List Value} {e : TypeId} (h : IsB H b l e) {c : Nat} (hc : b ≠ c) (x : Option OB) : IsB (Ev.set H (bits c) x) b l e := by
  obtain ⟨tr, h1, h2⟩ := h
  exact ⟨tr, by rw [get_at, if_neg hc]; exact h1, h2⟩
theorem IsB.ag {b : Nat} {l : List Value} {e : TypeId} (h : IsB H b l e) (hA : Ag nx H nx1 H1) (hb : b < nx) : IsB H1 b l e := by
  obtain ⟨tr, h1, h2⟩ := h
  exact ⟨tr, (show hp H1 b = _ from (hA.2 b hb).trans h1), h2⟩
/-- Cells over others. -/
def overL (l u : List Value) (off : Nat) : List Value := l.take off ++ u ++ l.drop (off + u.length)
theorem toL_of {tr : T Value} {l : List Value} (h : ∀ i, i < l.length → tr.get (bits i) = l[i]?) : ∀ (n off : Nat), off + n ≤ l.length → toL tr n off = some ((l.drop off).take n)
  | 0, off, _ => by rw [toL_zero]; simp
  | n + 1, off, hn => by
    have hlt : off < l.length := by omega
    rw [toL_succ, h off hlt, List.getElem?_eq_getElem hlt, toL_of h n (off + 1) (by omega), List.drop_eq_getElem_cons hlt, List.take_succ_cons]
theorem rdLoad_agg {b off s : Nat} {l : List Value} {e t : TypeId} (h : IsB H b l e) (ha : aggQ P t = some true) (hs : szOf P t = some s) (hn : off + s ≤ l.length) :
    rdLoad P H t (some (.pointer (some ⟨b, off, none⟩))) = some (.agg ⟨(l.drop off).take s⟩) := by
  obtain ⟨tr, h1, h2⟩ := h
  show loadO P H t b off = _
  unfold loadO
  rw [h1]
  show loadB P l.length tr t off = _
  unfold loadB
  rw [ha, optK_some]
  show loadA P l.length tr t off = _
  unfold loadA
  rw [hs, optK_some, toL_of h2 s off hn, Nat.ble_eq_true_of_le hn]
  rfl
theorem rdLoad_cell {b off : Nat} {l : List Value} {e t : TypeId} {u : Value} (h : IsB H b l e) (ha : aggQ P t = some false) (hu : l[off]? = some u) : rdLoad P H t (some (.pointer (some ⟨b, off, none⟩))) = some u := by
  obtain ⟨tr, h1, h2⟩ := h
  have hlt := (List.getElem?_eq_some_iff.1 hu).1
  show loadO P H t b off = _
  unfold loadO
  rw [h1]
  show loadB P l.length tr t off = _
  unfold loadB
  rw [ha, optK_some]
  show load1 l.length tr off = _
  unfold load1
  have e1 : Nat.blt off l.length = true := Nat.ble_eq_true_of_le hlt
  rw [e1, h2 off hlt, hu]
  rfl
theorem Wq.alloc {e : TypeId} {l : List Value} {k : Value → T OB → Nat → Q} (hz : zeroC P e = some l) (h : Ag nx0 H0 nx H)
    (hk : ∀ H', IsB H' nx l e → (∀ b l e, b < nx → IsB H b l e → IsB H' b l e) → Ag nx0 H0 (nx + 1) H' → WqR P pl X (k (.pointer (some ⟨nx, 0, none⟩)) H' (nx + 1)) nx0 H0 R) : WqR P pl X (effQ (efAlloc P H nx e) k) nx0 H0 R := by
  rw [effQ_alloc hz]
  exact hk _ (IsB.new l e) (fun b l e hb h => h.other (by omega) _) (h.succ.set h.1 _)
theorem Wq.box {e : TypeId} {u : Value} {k : Value → T OB → Nat → Q} (h : Ag nx0 H0 nx H)
    (hk : ∀ H', IsB H' nx u.cells.toList e → (∀ b l e, b < nx → IsB H b l e → IsB H' b l e) → Ag nx0 H0 (nx + 1) H' → WqR P pl X (k (.pointer (some ⟨nx, 0, none⟩)) H' (nx + 1)) nx0 H0 R) : WqR P pl X (effQ (efBox H nx e (some u)) k) nx0 H0 R := by
  have e1 : effQ (efBox H nx e (some u)) k = k (ptrAt nx) (Ev.set H (bits nx) (some (newOB u.cells.toList e))) (nx + 1) := by
    show effQ (newK H nx e u.cells.toList fun H n => .val (ptrAt nx) H n) k = _
    rw [newK_eq]; rfl
  rw [e1]
  exact hk _ (IsB.new _ e) (fun b l e hb h => h.other (by omega) _) (h.succ.set h.1 _)
theorem overL_get {l u : List Value} {off i : Nat} (hn : off + u.length ≤ l.length) : (overL l u off)[i]? = if off ≤ i ∧ i < off + u.length then u[i - off]? else l[i]? := by
  unfold overL
  have h1 : (l.take off).length = off := by simp; omega
  by_cases h : i < off
  · rw [if_neg (by omega), List.append_assoc, List.getElem?_append_left (by omega), List.getElem?_take, if_pos h]
  · by_cases h2 : i < off + u.length
    · rw [if_pos (by omega), List.append_assoc, List.getElem?_append_right (by omega), List.getElem?_append_left (by omega), h1]
    · rw [if_neg (by omega), List.getElem?_append_right (by simp; omega), List.getElem?_drop]
      congr 1
      simp
      omega
theorem overL_length {l u : List Value} {off : Nat} (hn : off + u.length ≤ l.length) : (overL l u off).length = l.length := by
  unfold overL; simp; omega
theorem Wq.store {b off s : Nat} {l : List Value} {e t : TypeId} {u : Value} {k : Value → T OB → Nat → Q} (hb : IsB H b l e) (hs : szOf P t = some s) (hn : off + s ≤ l.length) (hl : u.cells.toList.length = s) (hone : u.cells.toList.all oneCell = true)
    (h : Ag nx0 H0 nx H) (hbn : nx0 ≤ b) (hk : ∀ H', IsB H' b (overL l u.cells.toList off) e → (∀ c l e, c ≠ b → IsB H c l e → IsB H' c l e) → Ag nx0 H0 nx H' → WqR P pl X (k undef H' nx) nx0 H0 R) :
    WqR P pl X (effQ (efStore P H nx t (some (.pointer (some ⟨b, off, none⟩))) (some u)) k) nx0 H0 R := by
  obtain ⟨tr, h1, h2⟩ := hb
  have e1 : efStore P H nx t (some (.pointer (some ⟨b, off, none⟩))) (some u) = .val undef (Ev.set H (bits b) (some (.cells l.length (fromL u.cells.toList off tr) e))) nx := by
    show cellsK (H.get (bits b)) (fun n tr e => optK (szOf P t) (fun s => bif Nat.beq u.cells.toList.length s && Nat.ble (off + s) n && u.cells.toList.all oneCell then
      fromLK u.cells.toList off tr fun tr => setK (bits b) H (some (.cells n tr e)) fun H => Eff.val undef H nx else .bad) .bad) .bad = _
    rw [h1]
    show optK (szOf P t) (fun s => bif Nat.beq u.cells.toList.length s && Nat.ble (off + s) l.length && u.cells.toList.all oneCell then
      fromLK u.cells.toList off tr fun tr => setK (bits b) H (some (.cells l.length tr e)) fun H => Eff.val undef H nx else .bad) .bad = _
    rw [hs, optK_some, hl, Nat.beq_refl, Nat.ble_eq_true_of_le hn, hone, fromLK_fromL, setK_set]
    rfl
  rw [e1]
  have hn' : off + u.cells.toList.length ≤ l.length := by rw [hl]; exact hn
  refine hk _ ⟨fromL u.cells.toList off tr, ?_, fun i hi => ?_⟩ (fun c l e hc h => h.other hc _) (h.set hbn _)
  · rw [get_at, if_pos rfl, overL_length hn']
  · rw [overL_length hn'] at hi
    rw [get_fromL, overL_get hn']
    split
    · rfl
    · exact h2 i hi
end
end Go.Ev
