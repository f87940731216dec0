/- How what a function's code says is told and used. -/
import Derived.Test.YthjhonhhbddhkaaGreatDoorG2
import Derived.Laws.Strings
import Derived.Test.YthjhonhhbddhkaaGreatDoorProg
import Derived.KernelRfl
namespace Go.Ev
noncomputable section
set_option linter.unusedVariables false
def tmOf (l : List (Nat × Value)) : T Value := @List.rec (Nat × Value) (fun _ => T Value) .leaf (fun p _ ih => setK (bits p.1) ih (some p.2) id) l
def cutsOf (cd : Code) : List Item -> List (List Item) :=
 @Code.rec (fun _ => List Item -> List (List Item)) (fun _ => []) (fun _ _ _ _ => []) (fun _ b iha ihb k => iha (.code b :: k) ++ ((.code b :: k) :: ihb k)) (fun _ _ _ iha ihb k => iha k ++ ihb k) (fun id _ ih k => ih (.inBlock id :: k))
  (fun b ih k => (.inLoop b :: k) :: ih (.inLoop b :: k)) (fun _ _ _ _ _ _ _ => []) (fun _ _ => []) (fun b ih k => ih (.inScope b :: k)) (fun _ _ => []) (fun _ _ => []) (fun _ => []) (fun _ _ => []) cd
def pickI (key : Nat) (l : List (List Item)) : List Item := @List.rec (List Item) (fun _ => List Item) [] (fun t _ ih => bif Nat.beq (keyI t) key then t else ih) l
def todoOf (P : Program) (f : FuncId) (key : Nat) : List Item := match P.funcs[f]? with
 | some fn => (match fn.body with
   | some cd => pickI key (cutsOf cd [])
   | none => [])
 | none => []
def frSt (P : Program) (H : T OB) (nx : Nat) (t : TypeId) (a : Option Value) (v : Value) (k : T OB -> Nat -> Q) : Q :=
 ptrQ a fun b off => cellsQ (H.get (bits b)) fun n _ _ => optK (szOf P t) (fun s =>
  bif Nat.beq off 0 && (Nat.beq n s && (Nat.beq v.cells.toList.length s && v.cells.toList.all oneCell)) then setK (bits b) H (some .dead) fun H => natF (Nat.succ nx) fun n => k H n else .bad) .bad
variable {P : Program} {pl : Pol} {X : Ext} {H H0 H1 : T OB} {nx nx0 nx1 : Nat} {v u : Value} {R : Value -> T OB -> Nat -> Prop}
def Ag (nx0 : Nat) (H0 : T OB) (nx : Nat) (H : T OB) : Prop := nx0 <= nx /\ ∀ k, k < nx0 -> hp H k = hp H0 k
theorem Ag.refl (nx : Nat) (H : T OB) : Ag nx H nx H := ⟨Nat.le_refl _, fun _ _ => rfl⟩
theorem Ag.trans (h : Ag nx0 H0 nx H) (h' : Ag nx H nx1 H1) : Ag nx0 H0 nx1 H1 := ⟨Nat.le_trans h.1 h'.1, fun k hk => (h'.2 k (Nat.lt_of_lt_of_le hk h.1)).trans (h.2 k hk)⟩
theorem Ag.set (h : Ag nx0 H0 nx H) {b : Nat} (hb : nx0 <= b) (x : Option OB) : Ag nx0 H0 nx (Ev.set H (bits b) x) := ⟨h.1, fun k hk => by rw [hp_set, upd_other _ (by omega)]; exact h.2 k hk⟩
theorem Ag.succ (h : Ag nx0 H0 nx H) : Ag nx0 H0 (nx + 1) H := ⟨Nat.le_succ_of_le h.1, h.2⟩
def WqR (P : Program) (pl : Pol) (X : Ext) (q : Q) (nx0 : Nat) (H0 : T OB) (R : Value -> T OB -> Nat -> Prop) : Prop := ∃ v H' nx', Ag nx0 H0 nx' H' /\ R v H' nx' /\ q.run (F P pl X) = some ⟨.ret v, false, H', nx'⟩
abbrev Wq (P : Program) (pl : Pol) (X : Ext) (q : Q) (nx0 : Nat) (H0 : T OB) (v : Value) : Prop := WqR P pl X q nx0 H0 fun u _ _ => u = v
def Pure (P : Program) (pl : Pol) (X : Ext) (f : FuncId) (args : List Value) (v : Value) : Prop := ∀ H nx, ∃ H' nx', Ag nx H nx' H' /\ F P pl X (.call f args false none H nx) = some ⟨.ret v, false, H', nx'⟩
theorem Pure.of {f : FuncId} {args : List Value} (hx : X f args = none) (h : ∀ H nx, Wq P pl X (evT P pl (.call f args false none H nx)) nx H v) : Pure P pl X f args v := fun H nx => by
 obtain ⟨_, H', nx', h1, rfl, h2⟩ := h H nx
 refine ⟨H', nx', h1, ?_⟩
 rw [F_eq]
 show @Option.rec Value (fun _ => Option Rt) _ (fun v => some ⟨.ret v, false, H, nx⟩) (X f args) = _
 rw [hx]
 exact h2
theorem Pure.ext {f : FuncId} {args : List Value} (hx : X f args = some v) : Pure P pl X f args v := fun H nx => ⟨H, nx, .refl _ _, by
 rw [F_eq]
 show @Option.rec Value (fun _ => Option Rt) _ (fun v => some ⟨.ret v, false, H, nx⟩) (X f args) = _
 rw [hx]⟩
theorem Wq.ret (h : Ag nx0 H0 nx H) : Wq P pl X (.ret ⟨.ret v, false, H, nx⟩) nx0 H0 v := ⟨v, H, nx, h, rfl, rfl⟩
theorem Wq.retR (h : Ag nx0 H0 nx H) (hR : R v H nx) : WqR P pl X (.ret ⟨.ret v, false, H, nx⟩) nx0 H0 R := ⟨v, H, nx, h, hR, rfl⟩
theorem Wq.jump {q : Cfg} (hq : ∀ k, extQ X q k = k) (h : WqR P pl X (evT P pl q) nx0 H0 R) : WqR P pl X (.jump q) nx0 H0 R := by
 obtain ⟨v, H', nx', h1, hR, h2⟩ := h
 refine ⟨v, H', nx', h1, hR, ?_⟩
 show F P pl X q = _
 rw [F_eq, hq]
 exact h2
theorem Wq.call {g : FuncId} {args : List Value} {k p : Value -> T OB -> Nat -> Q} (hg : Pure P pl X g args u) (h : Ag nx0 H0 nx H) (hk : ∀ H' nx', Ag nx0 H0 nx' H' -> WqR P pl X (k u H' nx') nx0 H0 R) :
 WqR P pl X (callQ (.call g args false none H nx) k p) nx0 H0 R := by
 obtain ⟨H1, nx1, h1, h2⟩ := hg H nx
 obtain ⟨v, H2, nx2, h3, hR, h4⟩ := hk H1 nx1 (h.trans h1)
 refine ⟨v, H2, nx2, h3, hR, ?_⟩
 show optK (F P pl X (.call g args false none H nx)) (fun r => (match r.o with | .ret v => k v r.H r.nx | .pan v => p v r.H r.nx : Q).run (F P pl X)) none = _
 rw [h2]
 exact h4
theorem effQ_alloc {e : TypeId} {l : List Value} {k : Value -> T OB -> Nat -> Q} (hz : zeroC P e = some l) : effQ (efAlloc P H nx e) k = k (ptrAt nx) (Ev.set H (bits nx) (some (newOB l e))) (nx + 1) := by
 unfold efAlloc
 rw [hz, optK_some, newK_eq]
 rfl
theorem Wq.var {e t : TypeId} {l : List Value} {s : Nat} {x : Value} {k : T OB -> Nat -> Q} (hz : zeroC P e = some l) (hs : szOf P t = some s) (hl : l.length = s) (hx : x.cells.toList.length = s) (hone : x.cells.toList.all oneCell = true)
 (h : Ag nx0 H0 nx H) (hk : ∀ H' nx', Ag nx0 H0 nx' H' -> WqR P pl X (k H' nx') nx0 H0 R) : WqR P pl X (effQ (efAlloc P H nx e) fun p H nx => frSt P H nx t (some p) x k) nx0 H0 R := by
 rw [effQ_alloc hz]
 have hg : (Ev.set H (bits nx) (some (newOB l e))).get (bits nx) = some (newOB l e) := by rw [get_at, if_pos rfl]
 have e1 : frSt P (Ev.set H (bits nx) (some (newOB l e))) (nx + 1) t (some (ptrAt nx)) x k = k (Ev.set (Ev.set H (bits nx) (some (newOB l e))) (bits nx) (some .dead)) (nx + 1 + 1) := by
  show cellsQ ((Ev.set H (bits nx) (some (newOB l e))).get (bits nx)) (fun n _ _ => optK (szOf P t) (fun s => bif Nat.beq 0 0 && (Nat.beq n s && (Nat.beq x.cells.toList.length s && x.cells.toList.all oneCell)) then
   setK (bits nx) (Ev.set H (bits nx) (some (newOB l e))) (some .dead) fun H => natF (Nat.succ (nx + 1)) fun n => k H n else .bad) .bad) = _
  rw [hg]
  show optK (szOf P t) (fun s => bif Nat.beq 0 0 && (Nat.beq l.length s && (Nat.beq x.cells.toList.length s && x.cells.toList.all oneCell)) then
   setK (bits nx) (Ev.set H (bits nx) (some (newOB l e))) (some .dead) fun H => natF (Nat.succ (nx + 1)) fun n => k H n else .bad) .bad = _
  rw [hs, optK_some, hl, hx, hone, setK_set, natF_eq]
  have e2 : Nat.beq s s = true := Nat.beq_refl s
  rw [e2]
  rfl
 rw [e1]
 exact hk _ _ ((((h.set h.1 _).succ).set h.1 _).succ)
theorem Wq.natF {k : Nat -> Q} (hk : WqR P pl X (k (nx + 1)) nx0 H0 R) : WqR P pl X (Ev.natF (Nat.succ nx) k) nx0 H0 R := by rw [natF_eq]; exact hk
@[simp] theorem nonneg_cast (n : Nat) : nonneg (n : Int) = true := rfl
@[simp] theorem ldV_int (k : IntKind) (n : Int) : ldV (some false) (some 1) (.int k n) = some (.int k n) := rfl
@[simp] theorem ldV_str (s : ByteArray) : ldV (some false) (some 1) (.string s) = some (.string s) := rfl
@[simp] theorem ldV_bool (s : Bool) : ldV (some false) (some 1) (.bool s) = some (.bool s) := rfl
@[simp] theorem ldV_row (s : Nat) (es : List Value) : ldV (some false) (some 1) (rowV s es) = some (rowV s es) := rfl
@[simp] theorem ldV_ep (u : Value) : ldV (some false) (some 1) (eptrV u) = some (eptrV u) := rfl
@[simp] theorem ldV_nilp : ldV (some false) (some 1) (.pointer none) = some (.pointer none) := rfl
theorem rdIndex_row {t : TypeId} {s : Nat} {es : List Value} {i : Nat} {u : Value} (hs : elSz P t = some s) (hi : es[i]? = some u) (k : IntKind) : rdIndexAddr P t (some (rowV s es)) (some (.int k (i : Int))) = some (eptrV u) := by
 show intNK (i : Int) (rdIA P t (some (rowV s es))) none = _
 rw [intNK_ofNat]
 show idxV (elSz P t) s es i = _
 unfold idxV
 rw [hs, optK_some, Nat.beq_refl, hi]
 rfl
theorem rdLen_row {t ty : TypeId} (s : Nat) (es : List Value) (h : isSliceT P (some t) = true) : rdLen P #[t] ty (some [rowV s es]) = some (.int .i64 (es.length : Int)) := by
 show (bif isSliceT P (some t) then some (Value.int .i64 (.ofNat es.length)) else none) = _
 rw [h]; rfl
theorem pureRun_bind {α β : Type} (s : Sem α) (f : α -> Sem β) : pureRun P (s >>= f) = (pureRun P s).bind fun a => pureRun P (f a) := by
 show pureRun P (s.bind f) = _
 induction s with
 | pure a => rfl
 | program k ih => exact ih P
 | mark m k ih => exact ih
 | _ => rfl
theorem pureRun_und {t : TypeId} {d : TypeDesc} (hu : P.underlying t = some d) : pureRun P (underlying t) = some d := by
 unfold underlying
 simp only [pureRun_bind, program, pureRun, Option.bind_some, hu]
 rfl
theorem rdLen_str {t ty : TypeId} (s : ByteArray) (hu : P.underlying t = some .string) : rdLen P #[t] ty (some [.string s]) = some (.int .i64 (s.size : Int)) := by
 show bltV P .len #[t] ty (some [.string s]) = _
 show (bif true && true then nextV (pureRun P (builtin .len #[t] ty #[] ⟨[.string s]⟩)) else none) = _
 have e : pureRun P (builtin .len #[t] ty #[] ⟨[.string s]⟩) = some (.value (.int .i64 (s.size : Int))) := by
  simp only [builtin, Builtin.len_]
  simp [pureRun_bind, pureRun_und hu, goInt]
  rfl
 rw [e]
 show (valF (.int .i64 (s.size : Int)) fun v => bif flat v then some v else none) = _
 rw [valF_eq]; rfl
@[simp] theorem oneCell_int (k : IntKind) (n : Int) : oneCell (.int k n) = true := rfl
@[simp] theorem oneCell_str (s : ByteArray) : oneCell (.string s) = true := rfl
@[simp] theorem oneCell_bool (b : Bool) : oneCell (.bool b) = true := rfl
@[simp] theorem oneCell_row (s : Nat) (es : List Value) : oneCell (rowV s es) = true := rfl
@[simp] theorem oneCell_ep (u : Value) : oneCell (eptrV u) = true := rfl
@[simp] theorem oneCell_nilp : oneCell (.pointer none) = true := rfl
theorem fV_pure {w : Value} (h : flat w = true) : fV P (pure w) = some w := by
 show (valF w fun v => bif flat v then some v else none) = _
 rw [valF_eq, h]; rfl
theorem binV_int (op : BinOp) (t : TypeId) (k : IntKind) (a b : Int) : binV P op t (.int k a) (.int k b) = fV P (binOp op t (.int k a) (.int k b)) := by cases op <;> rfl
theorem rdBin_flat {op : BinOp} {t : TypeId} {q : Bool} {a b : Value} (ha : flat a = true) (hb : flat b = true) (hq : isNI a = false) (hg : isAggV a = false) : rdBin P H op t q (some a) (some b) = binV P op t a b := by
 have e : rdBin P H op t q (some a) (some b) = rdBin2 P H op t q a b := by cases a <;> first | rfl | cases hg
 rw [e]
 show (bif flat a && flat b then (bif q || !(isNI a && isNI b) then binV P op t a b else none) else rdPtr P H op t a b) = _
 rw [ha, hb, hq]
 cases q <;> rfl
theorem rdBin_int (op : BinOp) (t : TypeId) (q : Bool) (k : IntKind) (a b : Int) : rdBin P H op t q (some (.int k a)) (some (.int k b)) = fV P (binOp op t (.int k a) (.int k b)) := by
 rw [rdBin_flat rfl rfl rfl rfl, binV_int]
@[simp] theorem rdBin_add (t : TypeId) (q : Bool) (k : IntKind) (a b : Int) : rdBin P H .add t q (some (.int k a)) (some (.int k b)) = some (.int k (k.wrap (a + b))) := by
  rw [rdBin_int]
  have e : binOp .add t (.int k a) (.int k b) = pure (.int k (k.wrap (a + b))) := by simp [binOp, Op.intArith]
  rw [e]; exact fV_pure rfl
@[simp] theorem rdBin_sub (t : TypeId) (q : Bool) (k : IntKind) (a b : Int) : rdBin P H .sub t q (some (.int k a)) (some (.int k b)) = some (.int k (k.wrap (a - b))) := by
  rw [rdBin_int]
  have e : binOp .sub t (.int k a) (.int k b) = pure (.int k (k.wrap (a - b))) := by simp [binOp, Op.intArith]
  rw [e]; exact fV_pure rfl
@[simp] theorem rdBin_mul (t : TypeId) (q : Bool) (k : IntKind) (a b : Int) : rdBin P H .mul t q (some (.int k a)) (some (.int k b)) = some (.int k (k.wrap (a * b))) := by
  rw [rdBin_int]
  have e : binOp .mul t (.int k a) (.int k b) = pure (.int k (k.wrap (a * b))) := by simp [binOp, Op.intArith]
  rw [e]; exact fV_pure rfl
theorem rdBin_quo (t : TypeId) (q : Bool) (k : IntKind) (a b : Int) (hb : b ≠ 0) : rdBin P H .quo t q (some (.int k a)) (some (.int k b)) = some (.int k (k.wrap (a.tdiv b))) := by
 rw [rdBin_int]
 have e : binOp .quo t (.int k a) (.int k b) = pure (.int k (k.wrap (a.tdiv b))) := by simp [binOp, Op.intDiv, hb]
 rw [e]; exact fV_pure rfl
theorem rdBin_rem (t : TypeId) (q : Bool) (k : IntKind) (a b : Int) (hb : b ≠ 0) : rdBin P H .rem t q (some (.int k a)) (some (.int k b)) = some (.int k (a.tmod b)) := by
 rw [rdBin_int]
 have e : binOp .rem t (.int k a) (.int k b) = pure (.int k (a.tmod b)) := by simp [binOp, Op.intDiv, hb]
 rw [e]; exact fV_pure rfl
@[simp] theorem rdBin_lss (t : TypeId) (q : Bool) (k : IntKind) (a b : Int) : rdBin P H .lss t q (some (.int k a)) (some (.int k b)) = some (.bool (decide (a < b))) := by
  rw [rdBin_int]
  have e : binOp .lss t (.int k a) (.int k b) = pure (.bool (decide (a < b))) := by simp [binOp, Op.intCmp]
  rw [e]; exact fV_pure rfl
@[simp] theorem rdBin_leq (t : TypeId) (q : Bool) (k : IntKind) (a b : Int) : rdBin P H .leq t q (some (.int k a)) (some (.int k b)) = some (.bool (decide (a <= b))) := by
  rw [rdBin_int]
  have e : binOp .leq t (.int k a) (.int k b) = pure (.bool (decide (a <= b))) := by simp [binOp, Op.intCmp]
  rw [e]; exact fV_pure rfl
@[simp] theorem rdBin_gtr (t : TypeId) (q : Bool) (k : IntKind) (a b : Int) : rdBin P H .gtr t q (some (.int k a)) (some (.int k b)) = some (.bool (decide (b < a))) := by
  rw [rdBin_int]
  have e : binOp .gtr t (.int k a) (.int k b) = pure (.bool (decide (b < a))) := by simp [binOp, Op.intCmp]
  rw [e]; exact fV_pure rfl
@[simp] theorem rdBin_geq (t : TypeId) (q : Bool) (k : IntKind) (a b : Int) : rdBin P H .geq t q (some (.int k a)) (some (.int k b)) = some (.bool (decide (b <= a))) := by
  rw [rdBin_int]
  have e : binOp .geq t (.int k a) (.int k b) = pure (.bool (decide (b <= a))) := by simp [binOp, Op.intCmp]
  rw [e]; exact fV_pure rfl
@[simp] theorem rdBin_eql (t : TypeId) (q : Bool) (k : IntKind) (a b : Int) : rdBin P H .eql t q (some (.int k a)) (some (.int k b)) = some (.bool (decide (a = b))) := by
  rw [rdBin_int]
  have e : binOp .eql t (.int k a) (.int k b) = pure (.bool (decide (a = b))) := by simp [binOp, Op.intCmp]; rfl
  rw [e]; exact fV_pure rfl
@[simp] theorem rdBin_neq (t : TypeId) (q : Bool) (k : IntKind) (a b : Int) : rdBin P H .neq t q (some (.int k a)) (some (.int k b)) = some (.bool (!decide (a = b))) := by
  rw [rdBin_int]
  have e : binOp .neq t (.int k a) (.int k b) = pure (.bool (!decide (a = b))) := by simp [binOp, Op.intCmp]; rfl
  rw [e]; exact fV_pure rfl
theorem beqL (a b : ByteArray) : (a.toList == b.toList) = decide (a = b) := by
 rw [ByteArray.toList_eq, ByteArray.toList_eq]
 obtain ⟨⟨x⟩⟩ := a
 obtain ⟨⟨y⟩⟩ := b
 rw [Bool.eq_iff_iff]
 simp
theorem rdBuild_of {t : TypeId} {z l : List Value} {vs : List (Nat × Value)} (hz : zeroC P t = some z) (hb : P.built t vs = some ⟨l⟩) : rdBuild P t (some vs) = some (.agg ⟨l⟩) := by
 show optK (zeroC P t) (fun _ => optK (P.built t vs) (fun cs => valF (.agg cs) some) none) none = _
 rw [hz, optK_some, hb, optK_some, valF_eq]
@[simp] theorem rdBin_seql (t : TypeId) (q : Bool) (a b : ByteArray) : rdBin P H .eql t q (some (.string a)) (some (.string b)) = some (.bool (decide (a = b))) := by
  rw [rdBin_flat rfl rfl rfl rfl]
  have e : binV P .eql t (.string a) (.string b) = fV P (binOp .eql t (.string a) (.string b)) := rfl
  rw [e, binOp_string_eql, beqL]; exact fV_pure rfl
@[simp] theorem rdBin_sneq (t : TypeId) (q : Bool) (a b : ByteArray) : rdBin P H .neq t q (some (.string a)) (some (.string b)) = some (.bool (!decide (a = b))) := by
  rw [rdBin_flat rfl rfl rfl rfl]
  have e : binV P .neq t (.string a) (.string b) = fV P (binOp .neq t (.string a) (.string b)) := rfl
  rw [e, binOp_string_neq, beqL]; exact fV_pure rfl
theorem rdBin_sadd (t : TypeId) (q : Bool) (a b : ByteArray) (h : a.size + b.size <= 9223372036854775807) : rdBin P H .add t q (some (.string a)) (some (.string b)) = some (.string (a ++ b)) := by
 rw [rdBin_flat rfl rfl rfl rfl]
 have e : binV P .add t (.string a) (.string b) = fV P (binOp .add t (.string a) (.string b)) := rfl
 have e2 : Op.stringOp .add a b = pure (.string (a ++ b)) := by
  simp only [Op.stringOp]
  rw [if_neg]
  have : IntKind.i64.max = 9223372036854775807 := by decide
  rw [this]
  omega
 rw [e, binOp_string_add, e2]; exact fV_pure rfl
@[simp] theorem unV_not (b : Bool) : unV P .not (some (.bool b)) = some (.bool (!b)) := by cases b <;> rfl
@[simp] theorem bvK_bool {β : Type} (b : Bool) (k : Bool -> β) (bad : β) : bvK (.bool b) k bad = k b := rfl
theorem wrap_id {n : Int} (h : -9223372036854775808 <= n /\ n < 9223372036854775808) : IntKind.i64.wrap n = n := by
 unfold IntKind.wrap
 have : IntKind.i64.bits = 64 := rfl
 have : IntKind.i64.signed = true := rfl
 simp only [*, Bool.true_and]
 split
 . rename_i h'
   simp only [decide_eq_true_eq] at h'
   omega
 . rename_i h'
   simp only [decide_eq_true_eq] at h'
   omega
theorem Wq.bK {b : Bool} {x y : Q} (h : b = true -> WqR P pl X x nx0 H0 R) (h' : b = false -> WqR P pl X y nx0 H0 R) : WqR P pl X (Ev.bK b x y) nx0 H0 R := by
 cases b
 . exact h' rfl
 . exact h rfl
theorem Wq.ite {p : Prop} [Decidable p] {x y : Q} (h : p -> WqR P pl X x nx0 H0 R) (h' : ¬p -> WqR P pl X y nx0 H0 R) : WqR P pl X (Ev.bK (decide p) x y) nx0 H0 R :=
 Wq.bK (fun q => h (of_decide_eq_true q)) (fun q => h' (of_decide_eq_false q))
theorem Wq.natF' {k : Nat -> Q} (h : Ag nx0 H0 nx H) (hk : Ag nx0 H0 (nx + 1) H -> WqR P pl X (k (nx + 1)) nx0 H0 R) : WqR P pl X (Ev.natF (Nat.succ nx) k) nx0 H0 R := Wq.natF (hk h.succ)
theorem Wq.up {σ : Type} (n : Nat) (q : Nat -> σ -> T OB -> Nat -> Q) (r : Nat -> σ -> Value) (hend : ∀ s H1 nx1, Ag nx0 H0 nx1 H1 -> Wq P pl X (q n s H1 nx1) nx0 H0 (r n s))
 (hstep : ∀ i s H1 nx1, i < n -> (∀ s H2 nx2, Ag nx0 H0 nx2 H2 -> Wq P pl X (q (i + 1) s H2 nx2) nx0 H0 (r (i + 1) s)) -> Ag nx0 H0 nx1 H1 -> Wq P pl X (q i s H1 nx1) nx0 H0 (r i s)) :
 ∀ (i : Nat) (s : σ) (H1 : T OB) (nx1 : Nat), i <= n -> Ag nx0 H0 nx1 H1 -> Wq P pl X (q i s H1 nx1) nx0 H0 (r i s) := by
 have h : ∀ (d i : Nat), n - i = d -> i <= n -> ∀ (s : σ) (H1 : T OB) (nx1 : Nat), Ag nx0 H0 nx1 H1 -> Wq P pl X (q i s H1 nx1) nx0 H0 (r i s) := by
  intro d
  induction d with
  | zero => intro i hd hi s H1 nx1 hA; obtain rfl : i = n := by omega
            exact hend s H1 nx1 hA
  | succ d ih => intro i hd hi s H1 nx1 hA; exact hstep i s H1 nx1 (by omega) (fun s H2 nx2 h => ih (i + 1) (by omega) (by omega) s H2 nx2 h) hA
 exact fun i s H1 nx1 hi hA => h (n - i) i rfl hi s H1 nx1 hA
def IsB (H : T OB) (b : Nat) (l : List Value) (e : TypeId) : Prop := ∃ tr, H.get (bits b) = some (.cells l.length tr e) /\ ∀ i, i < l.length -> tr.get (bits i) = l[i]?
theorem IsB.new (l : List Value) (e : TypeId) : IsB (Ev.set H (bits nx) (some (newOB l e))) nx l e := ⟨_, by rw [get_at, if_pos rfl]; rfl, fun i hi => get_newOB l i hi⟩
theorem IsB.other {b : Nat} {l : List Value} {e : TypeId} (h : IsB H b l e) {c : Nat} (hc : b ≠ c) (x : Option OB) : IsB (Ev.set H (bits c) x) b l e := by
 obtain ⟨tr, h1, h2⟩ := h
 exact ⟨tr, by rw [get_at, if_neg hc]; exact h1, h2⟩
theorem IsB.ag {b : Nat} {l : List Value} {e : TypeId} (h : IsB H b l e) (hA : Ag nx H nx1 H1) (hb : b < nx) : IsB H1 b l e := by
 obtain ⟨tr, h1, h2⟩ := h
 exact ⟨tr, (show hp H1 b = _ from (hA.2 b hb).trans h1), h2⟩
def overL (l u : List Value) (off : Nat) : List Value := l.take off ++ u ++ l.drop (off + u.length)
theorem toL_of {tr : T Value} {l : List Value} (h : ∀ i, i < l.length -> tr.get (bits i) = l[i]?) : ∀ (n off : Nat), off + n <= l.length -> toL tr n off = some ((l.drop off).take n)
 | 0, off, _ => by rw [toL_zero]; simp
 | n + 1, off, hn => by
   have hlt : off < l.length := by omega
   rw [toL_succ, h off hlt, List.getElem?_eq_getElem hlt, toL_of h n (off + 1) (by omega), List.drop_eq_getElem_cons hlt, List.take_succ_cons]
theorem rdLoad_agg {b off s : Nat} {l : List Value} {e t : TypeId} (h : IsB H b l e) (ha : aggQ P t = some true) (hs : szOf P t = some s) (hn : off + s <= l.length) :
 rdLoad P H t (some (.pointer (some ⟨b, off, none⟩))) = some (.agg ⟨(l.drop off).take s⟩) := by
 obtain ⟨tr, h1, h2⟩ := h
 show loadO P H t b off = _
 unfold loadO
 rw [h1]
 show loadB P l.length tr t off = _
 unfold loadB
 rw [ha, optK_some]
 show loadA P l.length tr t off = _
 unfold loadA
 rw [hs, optK_some, toL_of h2 s off hn, Nat.ble_eq_true_of_le hn]
 rfl
theorem rdLoad_cell {b off : Nat} {l : List Value} {e t : TypeId} {u : Value} (h : IsB H b l e) (ha : aggQ P t = some false) (hu : l[off]? = some u) : rdLoad P H t (some (.pointer (some ⟨b, off, none⟩))) = some u := by
 obtain ⟨tr, h1, h2⟩ := h
 have hlt := (List.getElem?_eq_some_iff.1 hu).1
 show loadO P H t b off = _
 unfold loadO
 rw [h1]
 show loadB P l.length tr t off = _
 unfold loadB
 rw [ha, optK_some]
 show load1 l.length tr off = _
 unfold load1
 have e1 : Nat.blt off l.length = true := Nat.ble_eq_true_of_le hlt
 rw [e1, h2 off hlt, hu]
 rfl
theorem Wq.alloc {e : TypeId} {l : List Value} {k : Value -> T OB -> Nat -> Q} (hz : zeroC P e = some l) (h : Ag nx0 H0 nx H)
 (hk : ∀ H', IsB H' nx l e -> (∀ b l e, b < nx -> IsB H b l e -> IsB H' b l e) -> Ag nx0 H0 (nx + 1) H' -> WqR P pl X (k (.pointer (some ⟨nx, 0, none⟩)) H' (nx + 1)) nx0 H0 R) : WqR P pl X (effQ (efAlloc P H nx e) k) nx0 H0 R := by
 rw [effQ_alloc hz]
 exact hk _ (IsB.new l e) (fun b l e hb h => h.other (by omega) _) (h.succ.set h.1 _)
theorem Wq.box {e : TypeId} {u : Value} {k : Value -> T OB -> Nat -> Q} (h : Ag nx0 H0 nx H)
 (hk : ∀ H', IsB H' nx u.cells.toList e -> (∀ b l e, b < nx -> IsB H b l e -> IsB H' b l e) -> Ag nx0 H0 (nx + 1) H' -> WqR P pl X (k (.pointer (some ⟨nx, 0, none⟩)) H' (nx + 1)) nx0 H0 R) : WqR P pl X (effQ (efBox H nx e (some u)) k) nx0 H0 R := by
 have e1 : effQ (efBox H nx e (some u)) k = k (ptrAt nx) (Ev.set H (bits nx) (some (newOB u.cells.toList e))) (nx + 1) := by
  show effQ (newK H nx e u.cells.toList fun H n => .val (ptrAt nx) H n) k = _
  rw [newK_eq]; rfl
 rw [e1]
 exact hk _ (IsB.new _ e) (fun b l e hb h => h.other (by omega) _) (h.succ.set h.1 _)
theorem overL_get {l u : List Value} {off i : Nat} (hn : off + u.length <= l.length) : (overL l u off)[i]? = if off <= i /\ i < off + u.length then u[i - off]? else l[i]? := by
 unfold overL
 have h1 : (l.take off).length = off := by simp; omega
 by_cases h : i < off
 . rw [if_neg (by omega), List.append_assoc, List.getElem?_append_left (by omega), List.getElem?_take, if_pos h]
 . by_cases h2 : i < off + u.length
   . rw [if_pos (by omega), List.append_assoc, List.getElem?_append_right (by omega), List.getElem?_append_left (by omega), h1]
   . rw [if_neg (by omega), List.getElem?_append_right (by simp; omega), List.getElem?_drop]
     congr 1
     simp
     omega
theorem overL_length {l u : List Value} {off : Nat} (hn : off + u.length <= l.length) : (overL l u off).length = l.length := by
 unfold overL; simp; omega
theorem Wq.store {b off s : Nat} {l : List Value} {e t : TypeId} {u : Value} {k : Value -> T OB -> Nat -> Q} (hb : IsB H b l e) (hs : szOf P t = some s) (hn : off + s <= l.length) (hl : u.cells.toList.length = s) (hone : u.cells.toList.all oneCell = true)
 (h : Ag nx0 H0 nx H) (hbn : nx0 <= b) (hk : ∀ H', IsB H' b (overL l u.cells.toList off) e -> (∀ c l e, c ≠ b -> IsB H c l e -> IsB H' c l e) -> Ag nx0 H0 nx H' -> WqR P pl X (k undef H' nx) nx0 H0 R) :
 WqR P pl X (effQ (efStore P H nx t (some (.pointer (some ⟨b, off, none⟩))) (some u)) k) nx0 H0 R := by
 obtain ⟨tr, h1, h2⟩ := hb
 have e1 : efStore P H nx t (some (.pointer (some ⟨b, off, none⟩))) (some u) = .val undef (Ev.set H (bits b) (some (.cells l.length (fromL u.cells.toList off tr) e))) nx := by
  show cellsK (H.get (bits b)) (fun n tr e => optK (szOf P t) (fun s => bif Nat.beq u.cells.toList.length s && Nat.ble (off + s) n && u.cells.toList.all oneCell then
   fromLK u.cells.toList off tr fun tr => setK (bits b) H (some (.cells n tr e)) fun H => Eff.val undef H nx else .bad) .bad) .bad = _
  rw [h1]
  show optK (szOf P t) (fun s => bif Nat.beq u.cells.toList.length s && Nat.ble (off + s) l.length && u.cells.toList.all oneCell then
   fromLK u.cells.toList off tr fun tr => setK (bits b) H (some (.cells l.length tr e)) fun H => Eff.val undef H nx else .bad) .bad = _
  rw [hs, optK_some, hl, Nat.beq_refl, Nat.ble_eq_true_of_le hn, hone, fromLK_fromL, setK_set]
  rfl
 rw [e1]
 have hn' : off + u.cells.toList.length <= l.length := by rw [hl]; exact hn
 refine hk _ ⟨fromL u.cells.toList off tr, ?_, fun i hi => ?_⟩ (fun c l e hc h => h.other hc _) (h.set hbn _)
 . rw [get_at, if_pos rfl, overL_length hn']
 . rw [overL_length hn'] at hi
   rw [get_fromL, overL_get hn']
   split
   . rfl
   . exact h2 i hi
end
end Go.Ev
/- What is held by value, and where a call is cut. -/
namespace Go.Proofs.YthjhonhhbddhkaaGreatDoor
open Go.Ev Go.RowKit
noncomputable section
set_option linter.unusedVariables false
noncomputable abbrev P : Program := Tryz.prog
def pl : Pol := ⟨[(157, [0]), (116, [0]), (142, [0]), (138, [0]), (82, [0]), (173, [0]), (79, [0])], [(76, [1]), (14, [0, 1]), (29, [0]), (25, [0]), (30, [0]), (31, [0]), (115, [0]), (83, [0]), (43, [0])], [(25, [2, 3]), (27, [5]), (29, [2, 3]), (30, [2, 3]), (31, [2, 3]), (33, [1]), (36, [1, 3]), (41, [7]), (42, [6]), (43, [6]), (44, [1, 5]), (45, [1, 5]), (49, [1]), (50, [1, 5, 7, 9, 11, 13]), (64, [1]), (72, [2]), (73, [2]), (74, [2]), (75, [3, 5, 7]), (80, [1]), (81, [1]), (84, [1]), (86, [1]), (87, [1]), (90, [1]), (93, [1]), (94, [1]), (95, [1]), (96, [1, 5]), (97, [1, 5, 7]), (98, [1, 5]), (126, [2]), (128, [6]), (131, [3, 5]), (132, [3]), (133, [3]), (134, [3, 7]), (135, [3, 5]), (137, [1]), (140, [1]), (141, [1]), (143, [1]), (162, [5]), (163, [3, 5]), (164, [8]), (165, [7]), (166, [3, 5, 6]), (168, [3]), (170, [3]), (171, [3, 5, 7]), (172, [1]), (183, [1]), (185, [3])], [((23, 9), [0, 3, 4]), ((27, 9), [3, 6, 7, 8]), ((21, 7), [0, 3]), ((20, 13), [0, 4, 5]), ((20, 20), [0, 4, 5]), ((49, 12), [1, 3, 4]), ((49, 58), [3]), ((49, 27), [1, 3, 5]), ((49, 44), [3, 4, 75]), ((49, 35), [1, 3, 5, 6]), ((49, 47), [3, 4, 7]), ((49, 53), [3, 4, 7, 8]), ((50, 70), [3]), ((50, 17), [3, 28, 29, 30]), ((50, 39), [3, 56, 57, 58]), ((50, 59), [3, 79, 80, 81]), ((50, 25), [3, 28, 29, 30, 40, 41, 42]), ((50, 45), [3, 56, 57, 58, 63, 64, 65]), ((45, 29), [1, 3, 4]), ((45, 47), [1, 3, 6]), ((45, 72), []), ((45, 36), [1, 3, 4, 89]), ((45, 57), [1, 3, 7]), ((42, 9), [4, 9, 10, 11]), ((41, 9), [0, 1, 5, 6]), ((41, 21), [0, 1, 5, 6, 7, 8]), ((41, 29), [0, 1, 5, 6, 7, 8, 9]), ((41, 37), [0, 1, 5, 6, 7, 10]), ((41, 47), [0, 1, 5, 6, 7, 11]), ((44, 17), [1, 3, 4]), ((44, 45), [1, 9, 10]), ((44, 66), [1]), ((44, 29), [1, 3, 4, 5, 6, 7, 8]), ((44, 60), [1, 9, 11]), ((43, 9), [4, 7, 8, 9]), ((43, 34), [4, 7, 8, 9]), ((43, 22), [4, 6, 7, 8, 9]), ((95, 9), [1, 3, 4]), ((94, 9), [1, 3, 4]), ((94, 17), [1, 3, 5]), ((93, 9), [1, 3, 4]), ((98, 9), [3, 7, 8, 9]), ((97, 9), [1, 3, 12, 13, 14]), ((97, 19), [3, 24, 25, 26]), ((96, 9), [3, 7, 8, 9]), ((89, 7), [0, 3]), ((87, 7), [1, 3]), ((87, 16), [1, 36]), ((87, 62), [1, 4, 41, 91]), ((87, 81), [1, 4, 5]), ((87, 86), [1, 4, 5, 152]), ((86, 6), [1, 16]), ((14, 11), [0, 1, 5]), ((14, 18), [0, 1, 5, 6, 7, 75]), ((14, 23), [0, 1, 5, 6, 7, 8]), ((14, 30), [0, 1, 5, 6, 7, 8, 113]), ((75, 24), [0, 3]), ((75, 27), [0, 48, 49, 50]), ((75, 39), [0, 5, 48, 49, 50, 76, 77, 78]), ((74, 9), [1, 2, 5, 6]), ((73, 9), [1, 2, 5, 6]), ((73, 17), [1, 2, 5, 7]), ((72, 9), [1, 2, 5, 6]), ((83, 9), [0, 1, 5, 6]), ((83, 16), [0, 1, 5, 6]), ((82, 9), [0, 3, 4]), ((81, 67), [1, 3, 4, 5]), ((81, 78), [1]), ((80, 40), [1]), ((79, 9), [0, 3, 4]), ((79, 18), [0, 3, 4, 5, 20]), ((79, 30), [0, 3, 4, 5, 43]), ((78, 10), [0, 3]), ((78, 15), [0, 3, 4, 5]), ((78, 28), [4, 5]), ((33, 26), [1, 66]), ((33, 46), [1, 90]), ((33, 31), [1, 3]), ((33, 48), [1, 110]), ((33, 36), [1, 3, 86]), ((33, 53), [1, 4]), ((36, 10), [1, 28]), ((143, 7), [1, 3]), ((115, 7), [0, 1, 5]), ((25, 6), [2, 3, 49]), ((25, 11), [2, 3, 5]), ((141, 42), [2, 3]), ((141, 20), [1, 2, 3, 10, 17]), ((141, 28), [1, 2, 3, 10, 25]), ((141, 36), [1, 2, 3, 10, 31]), ((32, 11), [0, 1, 5]), ((31, 6), [2, 3, 29]), ((31, 11), [2, 3, 5]), ((31, 21), [2, 3, 6]), ((133, 6), [0, 3, 12]), ((135, 11), [0, 18, 19, 20]), ((134, 10), [0, 3]), ((134, 13), [0, 3, 21, 22, 23]), ((134, 20), [0, 3, 5, 21, 22, 23]), ((134, 28), [0, 3]), ((134, 35), [0, 59, 60, 61]), ((131, 36), [0, 3, 7, 51]), ((131, 40), [0, 3]), ((131, 83), [0, 163, 164, 165]), ((130, 14), [0]), ((130, 20), [0, 3]), ((130, 26), [0, 3]), ((130, 38), [0, 3]), ((130, 44), [0, 3]), ((130, 28), [0, 3, 72]), ((128, 8), [3, 4, 5, 6, 72]), ((126, 9), [1, 2, 5, 6]), ((137, 6), [1, 11]), ((139, 9), [0, 1, 5, 6]), ((118, 9), [0, 3, 4]), ((118, 18), [0, 3, 4, 5, 20]), ((118, 30), [0, 3, 4, 5, 43]), ((138, 9), [0, 3, 4]), ((58, 6), [0, 3]), ((54, 7), [1, 7, 8, 9]), ((53, 11), [0, 1, 5]), ((53, 16), [0, 1, 5, 54]), ((171, 18), [0, 3, 9, 26]), ((171, 20), [0, 3]), ((171, 40), [0, 3]), ((171, 23), [0, 3, 52, 53, 54]), ((171, 43), [0, 3, 85, 86, 87]), ((171, 30), [0, 3, 5, 52, 53, 54]), ((171, 50), [0, 3, 7, 85, 86, 87]), ((171, 58), [0, 3]), ((165, 5), [0, 2, 8, 9, 10]), ((165, 12), [0, 2, 7, 8, 9, 10]), ((170, 46), [0, 3, 77]), ((170, 56), [0, 3]), ((153, 7), [1, 7, 8, 9]), ((169, 6), [0, 2, 10]), ((167, 7), [0, 5, 6]), ((166, 13), [0, 3, 19, 20, 21]), ((166, 18), [0, 3, 5, 19, 20, 21]), ((166, 38), [0]), ((162, 5), [0, 6, 7, 8]), ((162, 12), [0, 5, 6, 7, 8]), ((163, 6), [0, 3]), ((163, 10), [0, 3]), ((163, 23), [0, 92, 93, 94]), ((173, 9), [0, 3, 4]), ((173, 16), [0, 3, 4, 5, 39]), ((172, 20), [1, 5]), ((114, 6), [0, 17]), ((114, 11), [0, 3]), ((114, 16), [0, 3, 34]), ((113, 10), [20]), ((112, 6), [0, 17]), ((112, 11), [0, 3]), ((111, 6), [0, 15]), ((111, 13), [0, 4, 5]), ((110, 9), [0, 4, 5]), ((110, 14), [0, 4, 5, 27]), ((117, 9), [0, 3, 4]), ((117, 16), [0, 3, 4, 5]), ((185, 6), [0, 3, 17]), ((184, 4), [0, 1, 2]), ((184, 7), [0, 1, 2, 6]), ((184, 14), [0, 1, 2, 6]), ((183, 20), [5]), ((155, 6), [0, 20]), ((155, 36), [0, 58])], true⟩
end
end Go.Proofs.YthjhonhhbddhkaaGreatDoor
/- Rows that are made, lengthened and handed out by value. -/
namespace Go.Ev
noncomputable section
set_option linter.unusedVariables false
variable {P : Program} {pl : Pol} {X : Ext} {H H0 H1 : T OB} {nx nx0 nx1 : Nat} {v u : Value} {R : Value -> T OB -> Nat -> Prop}
theorem Wq.new {e : TypeId} {l : List Value} {q : T OB -> Nat -> Q} (h : Ag nx0 H0 nx H) (hk : ∀ H', IsB H' nx l e -> (∀ b l e, b < nx -> IsB H b l e -> IsB H' b l e) -> Ag nx0 H0 (nx + 1) H' -> WqR P pl X (q H' (nx + 1)) nx0 H0 R) :
 WqR P pl X (q (Ev.set H (bits nx) (some (newOB l e))) (nx + 1)) nx0 H0 R := hk _ (IsB.new l e) (fun b l e hb h => h.other (by omega) _) (h.succ.set h.1 _)
theorem Wq.row {t e : TypeId} {s n : Nat} {vs : List (Nat × Value)} {z l : List Value} {k : Value -> T OB -> Nat -> Q} (hu : P.underlying t = some (.slice e)) (hs : szOf P e = some s) (hz : zeroC P e = some z)
 (hg : (Nat.ble (n * s) 16777216 && Nat.blt 0 (n * s) && Nat.blt 0 z.length) = true) (hf : Instr.fill (fun i => some (i * s, s)) (zeroRow z (n * s)) vs = some ⟨l⟩) (h : Ag nx0 H0 nx H)
 (hk : ∀ H', IsB H' nx l e -> (∀ b l e, b < nx -> IsB H b l e -> IsB H' b l e) -> Ag nx0 H0 (nx + 1) H' -> WqR P pl X (k (.slice (some ⟨nx, 0, none⟩) n n) H' (nx + 1)) nx0 H0 R) :
 WqR P pl X (effQ (efBuildSlice P H nx t n (some vs)) k) nx0 H0 R := by
 have e1 : effQ (efBuildSlice P H nx t n (some vs)) k = k (.slice (some ⟨nx, 0, none⟩) n n) (Ev.set H (bits nx) (some (newOB l e))) (nx + 1) := by
  unfold efBuildSlice sliceTK
  rw [optK_some, hu]
  simp only [hs, optK_some, hz, hg, cond_true, hf]
  rw [newK_eq, natF_eq]
  rfl
 rw [e1]
 exact Wq.new h hk
theorem xsOf_b {b s n c : Nat} {l : List Value} {e : TypeId} (h : IsB H b l e) (hn : l.length = n * s) : xsOf H s (.slice (some ⟨b, 0, none⟩) n c) = some (n, l) := by
 obtain ⟨tr, h1, h2⟩ := h
 show optK (cellsOf H s (some ⟨b, 0, none⟩) n) (fun l => some (n, l)) none = _
 unfold cellsOf
 simp only
 rw [h1]
 show optK (bif Nat.ble (0 + n * s) l.length then toL tr (n * s) 0 else none) (fun l => some (n, l)) none = _
 rw [Nat.zero_add, hn, Nat.ble_eq_true_of_le (Nat.le_refl _), cond_true, <- hn, toL_of h2 _ _ (by omega)]
 simp
theorem xsOf_row (s : Nat) (es : List Value) : xsOf H s (rowV s es) = some (es.length, es.flatMap fun u => u.cells.toList) := by
 show (bif Nat.beq s s then some (es.length, es.flatMap fun u => u.cells.toList) else none) = _
 rw [Nat.beq_refl]; rfl
def isStr (v : Value) : Bool := match v with
 | .string _ => true
 | _ => false
theorem efAppS_eq {t : TypeId} {x : Value} {base : Option Addr} {sl sc : Nat} (hx : isStr x = false) : efAppS P H nx [t, t] (some [.slice base sl sc, x]) = sliceTK P t (fun e s => optK (xsOf H s x) (fun p => bif apSmall P e s (sl + p.1) then apGo P H nx e s base sl sc p.1 p.2 else .bad) .bad) .bad := by
 have e1 : efAppS P H nx [t, t] (some [.slice base sl sc, x]) = efAppend P H nx [t, t] (some [.slice base sl sc, x]) := by cases x <;> first | rfl | cases hx
 rw [e1]
 show (bif !Nat.beq t t then Eff.bad else _) = _
 rw [Nat.beq_refl]; rfl
theorem Wq.app0 {t e : TypeId} {s m : Nat} {x : Value} {xs : List Value} {k : Value -> T OB -> Nat -> Q} (hu : P.underlying t = some (.slice e)) (hs : szOf P e = some s) (hx : isStr x = false) (hxs : xsOf H s x = some (m, xs)) (hsm : apSmall P e s m = true) (h : Ag nx0 H0 nx H)
 (h0 : m = 0 -> WqR P pl X (k (.slice none 0 0) H nx) nx0 H0 R)
 (hk : ∀ H', 0 < m -> IsB H' nx xs e -> (∀ b l e, b < nx -> IsB H b l e -> IsB H' b l e) -> Ag nx0 H0 (nx + 1) H' -> WqR P pl X (k (.slice (some ⟨nx, 0, none⟩) m unk) H' (nx + 1)) nx0 H0 R) :
 WqR P pl X (effQ (efAppS P H nx [t, t] (some [.slice none 0 0, x])) k) nx0 H0 R := by
 rw [efAppS_eq hx]
 unfold sliceTK
 rw [hu]
 simp only [hs, optK_some, hxs, Nat.zero_add, hsm, cond_true]
 show WqR P pl X (effQ (bif Nat.beq 0 0 && Nat.beq 0 0 then (bif Nat.beq m 0 then .val (.slice none 0 0) H nx else apNew H nx e m xs) else .bad) k) nx0 H0 R
 cases m with
 | zero => exact h0 rfl
 | succ m =>
   show WqR P pl X (effQ (apNew H nx e (m + 1) xs) k) nx0 H0 R
   rw [newK_mk]
   exact Wq.new (q := fun H n => k (.slice (some ⟨nx, 0, none⟩) (m + 1) unk) H n) h fun H' a b c => hk H' (Nat.succ_pos _) a b c
theorem Wq.app {t e e' : TypeId} {b s n m : Nat} {x : Value} {l xs : List Value} {k : Value -> T OB -> Nat -> Q} (hu : P.underlying t = some (.slice e)) (hs : szOf P e = some s) (hb : IsB H b l e') (hs' : szOf P e' = some s) (hl : l.length = n * s) (hx : isStr x = false) (hxs : xsOf H s x = some (m, xs))
 (hone : xs.all oneCell = true) (hsm : apSmall P e s (n + m) = true) (h : Ag nx0 H0 nx H) (hbn : nx0 <= b) (hbx : b < nx)
 (hk : ∀ H', IsB H' nx (l ++ xs) e -> (∀ c l e, c ≠ b -> c < nx -> IsB H c l e -> IsB H' c l e) -> Ag nx0 H0 (nx + 1) H' -> WqR P pl X (k (.slice (some ⟨nx, 0, none⟩) (n + m) unk) H' (nx + 1)) nx0 H0 R) :
 WqR P pl X (effQ (efAppS P H nx [t, t] (some [.slice (some ⟨b, 0, none⟩) n unk, x])) k) nx0 H0 R := by
 rw [efAppS_eq hx]
 unfold sliceTK
 rw [hu]
 simp only [hs, optK_some, hxs, hsm, cond_true]
 obtain ⟨tr, h1, h2⟩ := hb
 have e1 : apGo P H nx e s (some ⟨b, 0, none⟩) n unk m xs = apNew (Ev.set H (bits b) (some .dead)) nx e (n + m) (l ++ xs) := by
  show apAt P H nx e s b 0 n unk m xs = _
  unfold apAt
  rw [h1]
  have eu : Nat.beq unk unk = true := Nat.beq_refl _
  simp only [cellsK, eu, cond_true]
  unfold apU esIs
  rw [h1]
  show (bif Nat.beq 0 0 && Nat.ble (n * s) l.length && optK (szOf P e') (fun z => Nat.beq z s) false && xs.all oneCell then _ else _) = _
  rw [hs', optK_some, Nat.beq_refl, hl, Nat.ble_eq_true_of_le (Nat.le_refl _), hone]
  have : toL tr (n * s) 0 = some l := by rw [<- hl, toL_of h2 _ _ (by omega)]; simp
  rw [this, Nat.beq_refl]
  show setK (bits b) H (some .dead) (fun H => apNew H nx e (n + m) (l ++ xs)) = _
  rw [setK_set]
 rw [e1, newK_mk]
 exact Wq.new (q := fun H n' => k (.slice (some ⟨nx, 0, none⟩) (n + m) unk) H n') (h.set hbn _) fun H' ha hb hc => hk H' ha (fun c l e hcb hcn hi => hb c l e hcn (hi.other hcb _)) hc
theorem chunk_cells : ∀ (l : List Value), chunk false 1 l.length l = some l
 | [] => rfl
 | v :: l => by
   show (bif Nat.ble 1 (l.length + 1) then optK (chunk false 1 l.length l) (fun r => bK false _ (optK (some v) (fun v => some (v :: r)) none)) none else none) = _
   rw [Nat.ble_eq_true_of_le (by omega), chunk_cells l]; rfl
theorem chunk_aggs (s : Nat) : ∀ (es : List (List Value)), (∀ x, x ∈ es -> x.length = s) -> chunk true s es.length es.flatten = some (es.map fun x => .agg ⟨x⟩)
 | [], _ => rfl
 | x :: es, h => by
   have hx := h x List.mem_cons_self
   show (bif Nat.ble s (x ++ es.flatten).length then optK (chunk true s es.length ((x ++ es.flatten).drop s)) (fun r => some (.agg ⟨(x ++ es.flatten).take s⟩ :: r)) none else none) = _
   rw [Nat.ble_eq_true_of_le (by simp; omega), <- hx, List.drop_left, List.take_left, hx, chunk_aggs s es fun y hy => h y (List.mem_cons_of_mem _ hy)]
   rfl
theorem Wq.frz {t e e' : TypeId} {b s n c : Nat} {a : Bool} {l es : List Value} {k : Value -> T OB -> Nat -> Q} (hu : P.underlying t = some (.slice e)) (hs : szOf P e = some s) (ha : aggQ P e = some a) (hpos : (Nat.blt 0 s && (a || Nat.beq s 1)) = true) (hb : IsB H b l e') (hl : l.length = n * s)
 (hc : (Nat.beq c unk || Nat.ble n c) = true) (hch : chunk a s n l = some es) (hone : (es.all fun x => Ev.bK a true (oneCell x)) = true) (h : Ag nx0 H0 nx H) (hbn : nx0 <= b)
 (hk : ∀ H', (∀ c l e, c ≠ b -> IsB H c l e -> IsB H' c l e) -> Ag nx0 H0 (nx + 1) H' -> WqR P pl X (k (rowV s es) H' (nx + 1)) nx0 H0 R) :
 WqR P pl X (frzV P t (.slice (some ⟨b, 0, none⟩) n c) H nx k) nx0 H0 R := by
 obtain ⟨tr, h1, h2⟩ := hb
 have e2 : frzS P H e b 0 n = some (rowV s es) := by
  unfold frzS
  rw [h1]
  show optK (szOf P e) (fun s => optK (aggQ P e) (fun a => bif Nat.ble (0 + n * s) l.length && Nat.blt 0 s && (a || Nat.beq s 1) then _ else none) none) none = _
  rw [hs, optK_some, ha, optK_some, Nat.zero_add, hl, Nat.ble_eq_true_of_le (Nat.le_refl _), Bool.true_and, hpos, cond_true]
  have : toL tr (n * s) 0 = some l := by rw [<- hl, toL_of h2 _ _ (by omega)]; simp
  rw [this, optK_some, hch, optK_some, hone]
  rfl
 have e1 : frzV P t (.slice (some ⟨b, 0, none⟩) n c) H nx k = k (rowV s es) (Ev.set H (bits b) (some .dead)) (nx + 1) := by
  unfold frzV
  rw [hu]
  simp only
  unfold frz1
  rw [hu]
  simp only
  rw [hc, cond_true, e2, optK_some, setK_set, natF_eq]
 rw [e1]
 exact hk _ (fun c l e hc hi => hi.other hc _) ((h.set hbn _).succ)
theorem rdIndex_sl {t : TypeId} {s b off len c i : Nat} (hs : elSz P t = some s) (hi : i < len) (k : IntKind) : rdIndexAddr P t (some (.slice (some ⟨b, off, none⟩) len c)) (some (.int k (i : Int))) = some (.pointer (some ⟨b, off + i * s, none⟩)) := by
 show intNK (i : Int) (rdIA P t (some (.slice (some ⟨b, off, none⟩) len c))) none = _
 rw [intNK_ofNat]
 show optK (elSz P t) (fun s => bif Nat.blt i len then natF (Nat.add off (Nat.mul i s)) (fun o => some (Value.pointer (some ⟨b, o, none⟩))) else none) none = _
 rw [hs, optK_some, show Nat.blt i len = true from Nat.ble_eq_true_of_le hi, cond_true, natF_eq]
 rfl
theorem rdLen_sl {t ty : TypeId} {a : Addr} {n c : Nat} (h : isSliceT P (some t) = true) : rdLen P #[t] ty (some [.slice (some a) n c]) = some (.int .i64 (n : Int)) := by
 show (bif isSliceT P (some t) then some (Value.int .i64 (.ofNat n)) else none) = _
 rw [h]; rfl
@[simp] theorem ldV_sl (a : Option Addr) (n c : Nat) : ldV (some false) (some 1) (.slice a n c) = some (.slice a n c) := rfl
@[simp] theorem oneCell_sl (a : Option Addr) (n c : Nat) : oneCell (.slice a n c) = true := rfl
@[simp] theorem rdNil_ep (u : Value) : rdNil (some (eptrV u)) = some (eptrV u) := rfl
@[simp] theorem rdNil_ptr (a : Addr) : rdNil (some (.pointer (some a))) = some (.pointer (some a)) := rfl
theorem Wq.mk {t e : TypeId} {i : TypeInfo} {n c : Nat} {z : List Value} {k : Value -> T OB -> Nat -> Q} (hu : P.underlying t = some (.slice e)) (hi : P.info? e = some i) (hz : zeroC P e = some z)
 (hg : (Nat.ble n c && Nat.ble (i.bytes * c) 281474976710656 && Nat.ble c 274877906944 && Nat.beq i.size z.length && Nat.blt 0 i.size) = true) (h1 : z.length ≠ 1) (hc : Nat.ble (c * i.size) 40000 = true) (h : Ag nx0 H0 nx H)
 (hk : ∀ H', IsB H' nx (rowL z c) e -> (∀ b l e, b < nx -> IsB H b l e -> IsB H' b l e) -> Ag nx0 H0 (nx + 1) H' -> WqR P pl X (k (.slice (some ⟨nx, 0, none⟩) n c) H' (nx + 1)) nx0 H0 R) :
 WqR P pl X (effQ (efMakeSlice P H nx t (some (.int .i64 (n : Int))) (some (.int .i64 (c : Int)))) k) nx0 H0 R := by
 have e1 : efMakeSlice P H nx t (some (.int .i64 (n : Int))) (some (.int .i64 (c : Int))) = mkSl P H nx e n c := by
  unfold efMakeSlice
  rw [hu]
  show intNK (n : Int) (fun l => intNK (c : Int) (fun c => mkSl P H nx e l c) .bad) .bad = _
  rw [intNK_ofNat, intNK_ofNat]
 have e2 : mkSl P H nx e n c = .val (.slice (some ⟨nx, 0, none⟩) n c) (Ev.set H (bits nx) (some (newOB (rowL z c) e))) (nx + 1) := by
  unfold mkSl
  rw [hi, hz]
  simp only
  rw [hg, cond_true]
  split
  . rename_i z'; exact absurd rfl h1
  . rw [hc, cond_true, newK_eq]
 rw [e1, e2]
 exact Wq.new (q := fun H n' => k (.slice (some ⟨nx, 0, none⟩) n c) H n') h hk
theorem Wq.callR {f : FuncId} {args : List Value} {R1 : Value -> T OB -> Nat -> Prop} {k p : Value -> T OB -> Nat -> Q} (hx : X f args = none) (h : WqR P pl X (evT P pl (.call f args false none H nx)) nx0 H0 R1)
 (hk : ∀ u H' nx', Ag nx0 H0 nx' H' -> R1 u H' nx' -> WqR P pl X (k u H' nx') nx0 H0 R) : WqR P pl X (callQ (.call f args false none H nx) k p) nx0 H0 R := by
 obtain ⟨u, H1, nx1, h1, hR1, h2⟩ := h
 obtain ⟨v, H2, nx2, h3, hR, h4⟩ := hk u H1 nx1 h1 hR1
 refine ⟨v, H2, nx2, h3, hR, ?_⟩
 show optK (F P pl X (.call f args false none H nx)) (fun r => (match r.o with | .ret v => k v r.H r.nx | .pan v => p v r.H r.nx : Q).run (F P pl X)) none = _
 have e1 : F P pl X (.call f args false none H nx) = some ⟨.ret u, false, H1, nx1⟩ := by
  rw [F_eq]
  show @Option.rec Value (fun _ => Option Rt) _ (fun v => some ⟨.ret v, false, H, nx⟩) (X f args) = _
  rw [hx]
  exact h2
 rw [e1]
 exact h4
theorem Wq.callAt {f : FuncId} {args : List Value} {k p : Value -> T OB -> Nat -> Q} (hx : X f args = none) (h : Wq P pl X (evT P pl (.call f args false none H nx)) nx0 H0 u)
 (hk : ∀ H' nx', Ag nx0 H0 nx' H' -> WqR P pl X (k u H' nx') nx0 H0 R) : WqR P pl X (callQ (.call f args false none H nx) k p) nx0 H0 R :=
 Wq.callR hx h fun u' H' nx' hA hu => by subst hu; exact hk H' nx' hA
theorem Wq.varB {e t : TypeId} {l : List Value} {s : Nat} {x : Value} {k : T OB -> Nat -> Q} (hz : zeroC P e = some l) (hs : szOf P t = some s) (hl : l.length = s) (hx : x.cells.toList.length = s) (hone : x.cells.toList.all oneCell = true)
 (h : Ag nx0 H0 nx H) (hk : ∀ H' nx', Ag nx0 H0 nx' H' -> nx <= nx' -> (∀ b l e, b < nx -> IsB H b l e -> IsB H' b l e) -> WqR P pl X (k H' nx') nx0 H0 R) : WqR P pl X (effQ (efAlloc P H nx e) fun p H nx => frSt P H nx t (some p) x k) nx0 H0 R := by
 rw [effQ_alloc hz]
 have hg : (Ev.set H (bits nx) (some (newOB l e))).get (bits nx) = some (newOB l e) := by rw [get_at, if_pos rfl]
 have e1 : frSt P (Ev.set H (bits nx) (some (newOB l e))) (nx + 1) t (some (ptrAt nx)) x k = k (Ev.set (Ev.set H (bits nx) (some (newOB l e))) (bits nx) (some .dead)) (nx + 1 + 1) := by
  show cellsQ ((Ev.set H (bits nx) (some (newOB l e))).get (bits nx)) (fun n _ _ => optK (szOf P t) (fun s => bif Nat.beq 0 0 && (Nat.beq n s && (Nat.beq x.cells.toList.length s && x.cells.toList.all oneCell)) then
   setK (bits nx) (Ev.set H (bits nx) (some (newOB l e))) (some .dead) fun H => Ev.natF (Nat.succ (nx + 1)) fun n => k H n else .bad) .bad) = _
  rw [hg]
  show optK (szOf P t) (fun s => bif Nat.beq 0 0 && (Nat.beq l.length s && (Nat.beq x.cells.toList.length s && x.cells.toList.all oneCell)) then
   setK (bits nx) (Ev.set H (bits nx) (some (newOB l e))) (some .dead) fun H => Ev.natF (Nat.succ (nx + 1)) fun n => k H n else .bad) .bad = _
  rw [hs, optK_some, hl, hx, hone, setK_set, natF_eq]
  have e2 : Nat.beq s s = true := Nat.beq_refl s
  rw [e2]
  rfl
 rw [e1]
 exact hk _ _ ((((h.set h.1 _).succ).set h.1 _).succ) (by omega) fun b l e hb hi => (hi.other (by omega) _).other (by omega) _
end
end Go.Ev
/- What the types are that the functions name. -/
namespace Go.Proofs.YthjhonhhbddhkaaGreatDoor
open Go.Ev Go.RowKit
noncomputable section
@[simp] theorem fa_31_0 (c0 c1 c2 c3 : Value) : rdFieldAddr P 31 (some (eptrV (.agg ⟨[c0, c1, c2, c3]⟩))) 0 = optK (bif oneCell c0 then some c0 else none) (fun x => some (eptrV x)) none := by kernel_rfl
@[simp] theorem fa_31_1 (c0 c1 c2 c3 : Value) : rdFieldAddr P 31 (some (eptrV (.agg ⟨[c0, c1, c2, c3]⟩))) 1 = optK (bif oneCell c1 then some c1 else none) (fun x => some (eptrV x)) none := by kernel_rfl
@[simp] theorem fa_31_2 (c0 c1 c2 c3 : Value) : rdFieldAddr P 31 (some (eptrV (.agg ⟨[c0, c1, c2, c3]⟩))) 2 = optK (bif oneCell c2 then some c2 else none) (fun x => some (eptrV x)) none := by kernel_rfl
@[simp] theorem fa_44_0 (c0 c1 c2 c3 c4 c5 : Value) : rdFieldAddr P 44 (some (eptrV (.agg ⟨[c0, c1, c2, c3, c4, c5]⟩))) 0 = optK (bif oneCell c0 then some c0 else none) (fun x => some (eptrV x)) none := by kernel_rfl
@[simp] theorem fa_44_1 (c0 c1 c2 c3 c4 c5 : Value) : rdFieldAddr P 44 (some (eptrV (.agg ⟨[c0, c1, c2, c3, c4, c5]⟩))) 1 = optK (bif oneCell c1 then some c1 else none) (fun x => some (eptrV x)) none := by kernel_rfl
@[simp] theorem fa_44_2 (c0 c1 c2 c3 c4 c5 : Value) : rdFieldAddr P 44 (some (eptrV (.agg ⟨[c0, c1, c2, c3, c4, c5]⟩))) 2 = optK (bif oneCell c2 then some c2 else none) (fun x => some (eptrV x)) none := by kernel_rfl
@[simp] theorem fa_44_3 (c0 c1 c2 c3 c4 c5 : Value) : rdFieldAddr P 44 (some (eptrV (.agg ⟨[c0, c1, c2, c3, c4, c5]⟩))) 3 = optK (bif oneCell c3 then some c3 else none) (fun x => some (eptrV x)) none := by kernel_rfl
@[simp] theorem fa_44_4 (c0 c1 c2 c3 c4 c5 : Value) : rdFieldAddr P 44 (some (eptrV (.agg ⟨[c0, c1, c2, c3, c4, c5]⟩))) 4 = optK (bif oneCell c4 then some c4 else none) (fun x => some (eptrV x)) none := by kernel_rfl
@[simp] theorem fa_44_5 (c0 c1 c2 c3 c4 c5 : Value) : rdFieldAddr P 44 (some (eptrV (.agg ⟨[c0, c1, c2, c3, c4, c5]⟩))) 5 = optK (bif oneCell c5 then some c5 else none) (fun x => some (eptrV x)) none := by kernel_rfl
@[simp] theorem fa_47_0 (c0 c1 c2 c3 : Value) : rdFieldAddr P 47 (some (eptrV (.agg ⟨[c0, c1, c2, c3]⟩))) 0 = optK (bif oneCell c0 then some c0 else none) (fun x => some (eptrV x)) none := by kernel_rfl
@[simp] theorem fa_47_1 (c0 c1 c2 c3 : Value) : rdFieldAddr P 47 (some (eptrV (.agg ⟨[c0, c1, c2, c3]⟩))) 1 = optK (bif oneCell c1 then some c1 else none) (fun x => some (eptrV x)) none := by kernel_rfl
@[simp] theorem fa_47_2 (c0 c1 c2 c3 : Value) : rdFieldAddr P 47 (some (eptrV (.agg ⟨[c0, c1, c2, c3]⟩))) 2 = optK (bif oneCell c2 then some c2 else none) (fun x => some (eptrV x)) none := by kernel_rfl
@[simp] theorem fa_47_3 (c0 c1 c2 c3 : Value) : rdFieldAddr P 47 (some (eptrV (.agg ⟨[c0, c1, c2, c3]⟩))) 3 = optK (bif oneCell c3 then some c3 else none) (fun x => some (eptrV x)) none := by kernel_rfl
@[simp] theorem fa_52_0 (c0 c1 c2 : Value) : rdFieldAddr P 52 (some (eptrV (.agg ⟨[c0, c1, c2]⟩))) 0 = optK (bif oneCell c0 then some c0 else none) (fun x => some (eptrV x)) none := by kernel_rfl
@[simp] theorem fa_52_1 (c0 c1 c2 : Value) : rdFieldAddr P 52 (some (eptrV (.agg ⟨[c0, c1, c2]⟩))) 1 = optK (bif oneCell c1 then some c1 else none) (fun x => some (eptrV x)) none := by kernel_rfl
@[simp] theorem fa_52_2 (c0 c1 c2 : Value) : rdFieldAddr P 52 (some (eptrV (.agg ⟨[c0, c1, c2]⟩))) 2 = optK (bif oneCell c2 then some c2 else none) (fun x => some (eptrV x)) none := by kernel_rfl
@[simp] theorem fa_55_0 (c0 c1 : Value) : rdFieldAddr P 55 (some (eptrV (.agg ⟨[c0, c1]⟩))) 0 = optK (bif oneCell c0 then some c0 else none) (fun x => some (eptrV x)) none := by kernel_rfl
@[simp] theorem fa_55_1 (c0 c1 : Value) : rdFieldAddr P 55 (some (eptrV (.agg ⟨[c0, c1]⟩))) 1 = optK (bif oneCell c1 then some c1 else none) (fun x => some (eptrV x)) none := by kernel_rfl
@[simp] theorem fa_57_0 (c0 c1 c2 c3 c4 c5 c6 c7 c8 c9 c10 c11 c12 c13 c14 c15 c16 : Value) : rdFieldAddr P 57 (some (eptrV (.agg ⟨[c0, c1, c2, c3, c4, c5, c6, c7, c8, c9, c10, c11, c12, c13, c14, c15, c16]⟩))) 0 = optK (bif oneCell c0 then some c0 else none) (fun x => some (eptrV x)) none := by kernel_rfl
@[simp] theorem fa_57_1 (c0 c1 c2 c3 c4 c5 c6 c7 c8 c9 c10 c11 c12 c13 c14 c15 c16 : Value) : rdFieldAddr P 57 (some (eptrV (.agg ⟨[c0, c1, c2, c3, c4, c5, c6, c7, c8, c9, c10, c11, c12, c13, c14, c15, c16]⟩))) 1 = some (eptrV (.agg ⟨[c1, c2, c3, c4]⟩)) := by kernel_rfl
@[simp] theorem fa_57_2 (c0 c1 c2 c3 c4 c5 c6 c7 c8 c9 c10 c11 c12 c13 c14 c15 c16 : Value) : rdFieldAddr P 57 (some (eptrV (.agg ⟨[c0, c1, c2, c3, c4, c5, c6, c7, c8, c9, c10, c11, c12, c13, c14, c15, c16]⟩))) 2 = some (eptrV (.agg ⟨[c5, c6, c7, c8, c9, c10]⟩)) := by kernel_rfl
@[simp] theorem fa_57_3 (c0 c1 c2 c3 c4 c5 c6 c7 c8 c9 c10 c11 c12 c13 c14 c15 c16 : Value) : rdFieldAddr P 57 (some (eptrV (.agg ⟨[c0, c1, c2, c3, c4, c5, c6, c7, c8, c9, c10, c11, c12, c13, c14, c15, c16]⟩))) 3 = optK (bif oneCell c11 then some c11 else none) (fun x => some (eptrV x)) none := by kernel_rfl
@[simp] theorem fa_57_4 (c0 c1 c2 c3 c4 c5 c6 c7 c8 c9 c10 c11 c12 c13 c14 c15 c16 : Value) : rdFieldAddr P 57 (some (eptrV (.agg ⟨[c0, c1, c2, c3, c4, c5, c6, c7, c8, c9, c10, c11, c12, c13, c14, c15, c16]⟩))) 4 = some (eptrV (.agg ⟨[c12, c13, c14]⟩)) := by kernel_rfl
@[simp] theorem fa_57_5 (c0 c1 c2 c3 c4 c5 c6 c7 c8 c9 c10 c11 c12 c13 c14 c15 c16 : Value) : rdFieldAddr P 57 (some (eptrV (.agg ⟨[c0, c1, c2, c3, c4, c5, c6, c7, c8, c9, c10, c11, c12, c13, c14, c15, c16]⟩))) 5 = some (eptrV (.agg ⟨[c15, c16]⟩)) := by kernel_rfl
@[simp] theorem fa_65_0 (c0 c1 c2 c3 c4 c5 c6 c7 : Value) : rdFieldAddr P 65 (some (eptrV (.agg ⟨[c0, c1, c2, c3, c4, c5, c6, c7]⟩))) 0 = optK (bif oneCell c0 then some c0 else none) (fun x => some (eptrV x)) none := by kernel_rfl
@[simp] theorem fa_65_1 (c0 c1 c2 c3 c4 c5 c6 c7 : Value) : rdFieldAddr P 65 (some (eptrV (.agg ⟨[c0, c1, c2, c3, c4, c5, c6, c7]⟩))) 1 = optK (bif oneCell c1 then some c1 else none) (fun x => some (eptrV x)) none := by kernel_rfl
@[simp] theorem fa_65_2 (c0 c1 c2 c3 c4 c5 c6 c7 : Value) : rdFieldAddr P 65 (some (eptrV (.agg ⟨[c0, c1, c2, c3, c4, c5, c6, c7]⟩))) 2 = some (eptrV (.agg ⟨[c2, c3, c4, c5, c6, c7]⟩)) := by kernel_rfl
@[simp] theorem fa_116_0 (c0 c1 : Value) : rdFieldAddr P 116 (some (eptrV (.agg ⟨[c0, c1]⟩))) 0 = optK (bif oneCell c0 then some c0 else none) (fun x => some (eptrV x)) none := by kernel_rfl
@[simp] theorem fa_116_1 (c0 c1 : Value) : rdFieldAddr P 116 (some (eptrV (.agg ⟨[c0, c1]⟩))) 1 = optK (bif oneCell c1 then some c1 else none) (fun x => some (eptrV x)) none := by kernel_rfl
@[simp] theorem fa_138_0 (c0 c1 c2 : Value) : rdFieldAddr P 138 (some (eptrV (.agg ⟨[c0, c1, c2]⟩))) 0 = optK (bif oneCell c0 then some c0 else none) (fun x => some (eptrV x)) none := by kernel_rfl
@[simp] theorem fa_138_1 (c0 c1 c2 : Value) : rdFieldAddr P 138 (some (eptrV (.agg ⟨[c0, c1, c2]⟩))) 1 = optK (bif oneCell c1 then some c1 else none) (fun x => some (eptrV x)) none := by kernel_rfl
@[simp] theorem fa_138_2 (c0 c1 c2 : Value) : rdFieldAddr P 138 (some (eptrV (.agg ⟨[c0, c1, c2]⟩))) 2 = optK (bif oneCell c2 then some c2 else none) (fun x => some (eptrV x)) none := by kernel_rfl
@[simp] theorem fp_31_0 (b : Nat) : rdFieldAddr P 31 (some (.pointer (some ⟨b, 0, none⟩))) 0 = some (.pointer (some ⟨b, 0, none⟩)) := by kernel_rfl
@[simp] theorem fp_31_1 (b : Nat) : rdFieldAddr P 31 (some (.pointer (some ⟨b, 0, none⟩))) 1 = some (.pointer (some ⟨b, 1, none⟩)) := by kernel_rfl
@[simp] theorem fp_31_2 (b : Nat) : rdFieldAddr P 31 (some (.pointer (some ⟨b, 0, none⟩))) 2 = some (.pointer (some ⟨b, 2, none⟩)) := by kernel_rfl
@[simp] theorem fp_31_3 (b : Nat) : rdFieldAddr P 31 (some (.pointer (some ⟨b, 0, none⟩))) 3 = some (.pointer (some ⟨b, 3, none⟩)) := by kernel_rfl
@[simp] theorem fp_44_0 (b : Nat) : rdFieldAddr P 44 (some (.pointer (some ⟨b, 0, none⟩))) 0 = some (.pointer (some ⟨b, 0, none⟩)) := by kernel_rfl
@[simp] theorem fp_44_1 (b : Nat) : rdFieldAddr P 44 (some (.pointer (some ⟨b, 0, none⟩))) 1 = some (.pointer (some ⟨b, 1, none⟩)) := by kernel_rfl
@[simp] theorem fp_44_2 (b : Nat) : rdFieldAddr P 44 (some (.pointer (some ⟨b, 0, none⟩))) 2 = some (.pointer (some ⟨b, 2, none⟩)) := by kernel_rfl
@[simp] theorem fp_44_3 (b : Nat) : rdFieldAddr P 44 (some (.pointer (some ⟨b, 0, none⟩))) 3 = some (.pointer (some ⟨b, 3, none⟩)) := by kernel_rfl
@[simp] theorem fp_44_4 (b : Nat) : rdFieldAddr P 44 (some (.pointer (some ⟨b, 0, none⟩))) 4 = some (.pointer (some ⟨b, 4, none⟩)) := by kernel_rfl
@[simp] theorem fp_44_5 (b : Nat) : rdFieldAddr P 44 (some (.pointer (some ⟨b, 0, none⟩))) 5 = some (.pointer (some ⟨b, 5, none⟩)) := by kernel_rfl
@[simp] theorem fp_47_0 (b : Nat) : rdFieldAddr P 47 (some (.pointer (some ⟨b, 0, none⟩))) 0 = some (.pointer (some ⟨b, 0, none⟩)) := by kernel_rfl
@[simp] theorem fp_47_1 (b : Nat) : rdFieldAddr P 47 (some (.pointer (some ⟨b, 0, none⟩))) 1 = some (.pointer (some ⟨b, 1, none⟩)) := by kernel_rfl
@[simp] theorem fp_47_2 (b : Nat) : rdFieldAddr P 47 (some (.pointer (some ⟨b, 0, none⟩))) 2 = some (.pointer (some ⟨b, 2, none⟩)) := by kernel_rfl
@[simp] theorem fp_47_3 (b : Nat) : rdFieldAddr P 47 (some (.pointer (some ⟨b, 0, none⟩))) 3 = some (.pointer (some ⟨b, 3, none⟩)) := by kernel_rfl
@[simp] theorem fp_55_0 (b : Nat) : rdFieldAddr P 55 (some (.pointer (some ⟨b, 0, none⟩))) 0 = some (.pointer (some ⟨b, 0, none⟩)) := by kernel_rfl
@[simp] theorem fp_55_1 (b : Nat) : rdFieldAddr P 55 (some (.pointer (some ⟨b, 0, none⟩))) 1 = some (.pointer (some ⟨b, 1, none⟩)) := by kernel_rfl
@[simp] theorem fp_57_0 (b : Nat) : rdFieldAddr P 57 (some (.pointer (some ⟨b, 0, none⟩))) 0 = some (.pointer (some ⟨b, 0, none⟩)) := by kernel_rfl
@[simp] theorem fp_57_1 (b : Nat) : rdFieldAddr P 57 (some (.pointer (some ⟨b, 0, none⟩))) 1 = some (.pointer (some ⟨b, 1, none⟩)) := by kernel_rfl
@[simp] theorem fp_57_2 (b : Nat) : rdFieldAddr P 57 (some (.pointer (some ⟨b, 0, none⟩))) 2 = some (.pointer (some ⟨b, 5, none⟩)) := by kernel_rfl
@[simp] theorem fp_57_3 (b : Nat) : rdFieldAddr P 57 (some (.pointer (some ⟨b, 0, none⟩))) 3 = some (.pointer (some ⟨b, 11, none⟩)) := by kernel_rfl
@[simp] theorem fp_57_4 (b : Nat) : rdFieldAddr P 57 (some (.pointer (some ⟨b, 0, none⟩))) 4 = some (.pointer (some ⟨b, 12, none⟩)) := by kernel_rfl
@[simp] theorem fp_57_5 (b : Nat) : rdFieldAddr P 57 (some (.pointer (some ⟨b, 0, none⟩))) 5 = some (.pointer (some ⟨b, 15, none⟩)) := by kernel_rfl
@[simp] theorem fp_65_0 (b : Nat) : rdFieldAddr P 65 (some (.pointer (some ⟨b, 0, none⟩))) 0 = some (.pointer (some ⟨b, 0, none⟩)) := by kernel_rfl
@[simp] theorem fp_65_1 (b : Nat) : rdFieldAddr P 65 (some (.pointer (some ⟨b, 0, none⟩))) 1 = some (.pointer (some ⟨b, 1, none⟩)) := by kernel_rfl
@[simp] theorem fp_65_2 (b : Nat) : rdFieldAddr P 65 (some (.pointer (some ⟨b, 0, none⟩))) 2 = some (.pointer (some ⟨b, 2, none⟩)) := by kernel_rfl
@[simp] theorem fp_116_0 (b : Nat) : rdFieldAddr P 116 (some (.pointer (some ⟨b, 0, none⟩))) 0 = some (.pointer (some ⟨b, 0, none⟩)) := by kernel_rfl
@[simp] theorem fp_116_1 (b : Nat) : rdFieldAddr P 116 (some (.pointer (some ⟨b, 0, none⟩))) 1 = some (.pointer (some ⟨b, 1, none⟩)) := by kernel_rfl
@[simp] theorem fp_138_0 (b : Nat) : rdFieldAddr P 138 (some (.pointer (some ⟨b, 0, none⟩))) 0 = some (.pointer (some ⟨b, 0, none⟩)) := by kernel_rfl
@[simp] theorem fp_138_1 (b : Nat) : rdFieldAddr P 138 (some (.pointer (some ⟨b, 0, none⟩))) 1 = some (.pointer (some ⟨b, 1, none⟩)) := by kernel_rfl
@[simp] theorem fp_138_2 (b : Nat) : rdFieldAddr P 138 (some (.pointer (some ⟨b, 0, none⟩))) 2 = some (.pointer (some ⟨b, 2, none⟩)) := by kernel_rfl
@[simp] theorem ld_2 (H : T OB) (u : Value) : rdLoad P H 2 (some (eptrV u)) = ldV (some false) (some 1) u := by kernel_rfl
@[simp] theorem ld_3 (H : T OB) (u : Value) : rdLoad P H 3 (some (eptrV u)) = ldV (some false) (some 1) u := by kernel_rfl
@[simp] theorem ld_4 (H : T OB) (u : Value) : rdLoad P H 4 (some (eptrV u)) = ldV (some false) (some 1) u := by kernel_rfl
@[simp] theorem ld_9 (H : T OB) (u : Value) : rdLoad P H 9 (some (eptrV u)) = ldV (some false) (some 1) u := by kernel_rfl
@[simp] theorem ld_24 (H : T OB) (u : Value) : rdLoad P H 24 (some (eptrV u)) = ldV (some false) (some 1) u := by kernel_rfl
@[simp] theorem ld_29 (H : T OB) (u : Value) : rdLoad P H 29 (some (eptrV u)) = ldV (some false) (some 1) u := by kernel_rfl
@[simp] theorem ld_31 (H : T OB) (c0 c1 c2 c3 : Value) : rdLoad P H 31 (some (eptrV (.agg ⟨[c0, c1, c2, c3]⟩))) = some (.agg ⟨[c0, c1, c2, c3]⟩) := by kernel_rfl
@[simp] theorem ld_41 (H : T OB) (u : Value) : rdLoad P H 41 (some (eptrV u)) = ldV (some false) (some 1) u := by kernel_rfl
@[simp] theorem ld_42 (H : T OB) (u : Value) : rdLoad P H 42 (some (eptrV u)) = ldV (some false) (some 1) u := by kernel_rfl
@[simp] theorem ld_44 (H : T OB) (c0 c1 c2 c3 c4 c5 : Value) : rdLoad P H 44 (some (eptrV (.agg ⟨[c0, c1, c2, c3, c4, c5]⟩))) = some (.agg ⟨[c0, c1, c2, c3, c4, c5]⟩) := by kernel_rfl
@[simp] theorem ld_47 (H : T OB) (c0 c1 c2 c3 : Value) : rdLoad P H 47 (some (eptrV (.agg ⟨[c0, c1, c2, c3]⟩))) = some (.agg ⟨[c0, c1, c2, c3]⟩) := by kernel_rfl
@[simp] theorem ld_48 (H : T OB) (u : Value) : rdLoad P H 48 (some (eptrV u)) = ldV (some false) (some 1) u := by kernel_rfl
@[simp] theorem ld_49 (H : T OB) (u : Value) : rdLoad P H 49 (some (eptrV u)) = ldV (some false) (some 1) u := by kernel_rfl
@[simp] theorem ld_50 (H : T OB) (u : Value) : rdLoad P H 50 (some (eptrV u)) = ldV (some false) (some 1) u := by kernel_rfl
@[simp] theorem ld_52 (H : T OB) (c0 c1 c2 : Value) : rdLoad P H 52 (some (eptrV (.agg ⟨[c0, c1, c2]⟩))) = some (.agg ⟨[c0, c1, c2]⟩) := by kernel_rfl
@[simp] theorem ld_53 (H : T OB) (u : Value) : rdLoad P H 53 (some (eptrV u)) = ldV (some false) (some 1) u := by kernel_rfl
@[simp] theorem ld_55 (H : T OB) (c0 c1 : Value) : rdLoad P H 55 (some (eptrV (.agg ⟨[c0, c1]⟩))) = some (.agg ⟨[c0, c1]⟩) := by kernel_rfl
@[simp] theorem ld_57 (H : T OB) (c0 c1 c2 c3 c4 c5 c6 c7 c8 c9 c10 c11 c12 c13 c14 c15 c16 : Value) : rdLoad P H 57 (some (eptrV (.agg ⟨[c0, c1, c2, c3, c4, c5, c6, c7, c8, c9, c10, c11, c12, c13, c14, c15, c16]⟩))) = some (.agg ⟨[c0, c1, c2, c3, c4, c5, c6, c7, c8, c9, c10, c11, c12, c13, c14, c15, c16]⟩) := by kernel_rfl
@[simp] theorem ld_65 (H : T OB) (c0 c1 c2 c3 c4 c5 c6 c7 : Value) : rdLoad P H 65 (some (eptrV (.agg ⟨[c0, c1, c2, c3, c4, c5, c6, c7]⟩))) = some (.agg ⟨[c0, c1, c2, c3, c4, c5, c6, c7]⟩) := by kernel_rfl
@[simp] theorem ld_138 (H : T OB) (c0 c1 c2 : Value) : rdLoad P H 138 (some (eptrV (.agg ⟨[c0, c1, c2]⟩))) = some (.agg ⟨[c0, c1, c2]⟩) := by kernel_rfl
@[simp] theorem ld_182 (H : T OB) (c0 c1 c2 c3 c4 c5 c6 : Value) : rdLoad P H 182 (some (eptrV (.agg ⟨[c0, c1, c2, c3, c4, c5, c6]⟩))) = some (.agg ⟨[c0, c1, c2, c3, c4, c5, c6]⟩) := by kernel_rfl
theorem ix_24 {es : List Value} {i : Nat} {u : Value} (h : es[i]? = some u) (k : IntKind) : rdIndexAddr P 24 (some (rowV 17 es)) (some (.int k (i : Int))) = some (eptrV u) := rdIndex_row (by kernel_rfl) h k
theorem ix_29 {es : List Value} {i : Nat} {u : Value} (h : es[i]? = some u) (k : IntKind) : rdIndexAddr P 29 (some (rowV 4 es)) (some (.int k (i : Int))) = some (eptrV u) := rdIndex_row (by kernel_rfl) h k
theorem ix_41 {es : List Value} {i : Nat} {u : Value} (h : es[i]? = some u) (k : IntKind) : rdIndexAddr P 41 (some (rowV 6 es)) (some (.int k (i : Int))) = some (eptrV u) := rdIndex_row (by kernel_rfl) h k
theorem ix_42 {es : List Value} {i : Nat} {u : Value} (h : es[i]? = some u) (k : IntKind) : rdIndexAddr P 42 (some (rowV 4 es)) (some (.int k (i : Int))) = some (eptrV u) := rdIndex_row (by kernel_rfl) h k
theorem ix_48 {es : List Value} {i : Nat} {u : Value} (h : es[i]? = some u) (k : IntKind) : rdIndexAddr P 48 (some (rowV 8 es)) (some (.int k (i : Int))) = some (eptrV u) := rdIndex_row (by kernel_rfl) h k
theorem ix_49 {es : List Value} {i : Nat} {u : Value} (h : es[i]? = some u) (k : IntKind) : rdIndexAddr P 49 (some (rowV 1 es)) (some (.int k (i : Int))) = some (eptrV u) := rdIndex_row (by kernel_rfl) h k
theorem ix_50 {es : List Value} {i : Nat} {u : Value} (h : es[i]? = some u) (k : IntKind) : rdIndexAddr P 50 (some (rowV 2 es)) (some (.int k (i : Int))) = some (eptrV u) := rdIndex_row (by kernel_rfl) h k
theorem ix_53 {es : List Value} {i : Nat} {u : Value} (h : es[i]? = some u) (k : IntKind) : rdIndexAddr P 53 (some (rowV 3 es)) (some (.int k (i : Int))) = some (eptrV u) := rdIndex_row (by kernel_rfl) h k
theorem ixs_49 {b off len c i : Nat} (h : i < len) (k : IntKind) : rdIndexAddr P 49 (some (.slice (some ⟨b, off, none⟩) len c)) (some (.int k (i : Int))) = some (.pointer (some ⟨b, off + i * 1, none⟩)) := rdIndex_sl (by kernel_rfl) h k
theorem und_24 : P.underlying 24 = some (.slice 57) := by kernel_rfl
theorem und_29 : P.underlying 29 = some (.slice 31) := by kernel_rfl
theorem und_49 : P.underlying 49 = some (.slice 9) := by kernel_rfl
theorem und_120 : P.underlying 120 = some (.slice 5) := by kernel_rfl
@[simp] theorem len_9 (s : ByteArray) (ty : TypeId) : rdLen P #[9] ty (some [.string s]) = some (.int .i64 (s.size : Int)) := rdLen_str s (by kernel_rfl)
@[simp] theorem len_24 (s : Nat) (es : List Value) (ty : TypeId) : rdLen P #[24] ty (some [rowV s es]) = some (.int .i64 (es.length : Int)) := rdLen_row s es (by kernel_rfl)
@[simp] theorem lenS_24 (ty : TypeId) (a : Addr) (n c : Nat) : rdLen P #[24] ty (some [.slice (some a) n c]) = some (.int .i64 (n : Int)) := rdLen_sl (by kernel_rfl)
@[simp] theorem lenN_24 (ty : TypeId) : rdLen P #[24] ty (some [.slice none 0 0]) = some (.int .i64 0) := by kernel_rfl
@[simp] theorem len_29 (s : Nat) (es : List Value) (ty : TypeId) : rdLen P #[29] ty (some [rowV s es]) = some (.int .i64 (es.length : Int)) := rdLen_row s es (by kernel_rfl)
@[simp] theorem lenS_29 (ty : TypeId) (a : Addr) (n c : Nat) : rdLen P #[29] ty (some [.slice (some a) n c]) = some (.int .i64 (n : Int)) := rdLen_sl (by kernel_rfl)
@[simp] theorem lenN_29 (ty : TypeId) : rdLen P #[29] ty (some [.slice none 0 0]) = some (.int .i64 0) := by kernel_rfl
@[simp] theorem len_41 (s : Nat) (es : List Value) (ty : TypeId) : rdLen P #[41] ty (some [rowV s es]) = some (.int .i64 (es.length : Int)) := rdLen_row s es (by kernel_rfl)
@[simp] theorem lenS_41 (ty : TypeId) (a : Addr) (n c : Nat) : rdLen P #[41] ty (some [.slice (some a) n c]) = some (.int .i64 (n : Int)) := rdLen_sl (by kernel_rfl)
@[simp] theorem lenN_41 (ty : TypeId) : rdLen P #[41] ty (some [.slice none 0 0]) = some (.int .i64 0) := by kernel_rfl
@[simp] theorem len_42 (s : Nat) (es : List Value) (ty : TypeId) : rdLen P #[42] ty (some [rowV s es]) = some (.int .i64 (es.length : Int)) := rdLen_row s es (by kernel_rfl)
@[simp] theorem lenS_42 (ty : TypeId) (a : Addr) (n c : Nat) : rdLen P #[42] ty (some [.slice (some a) n c]) = some (.int .i64 (n : Int)) := rdLen_sl (by kernel_rfl)
@[simp] theorem lenN_42 (ty : TypeId) : rdLen P #[42] ty (some [.slice none 0 0]) = some (.int .i64 0) := by kernel_rfl
@[simp] theorem len_48 (s : Nat) (es : List Value) (ty : TypeId) : rdLen P #[48] ty (some [rowV s es]) = some (.int .i64 (es.length : Int)) := rdLen_row s es (by kernel_rfl)
@[simp] theorem lenS_48 (ty : TypeId) (a : Addr) (n c : Nat) : rdLen P #[48] ty (some [.slice (some a) n c]) = some (.int .i64 (n : Int)) := rdLen_sl (by kernel_rfl)
@[simp] theorem lenN_48 (ty : TypeId) : rdLen P #[48] ty (some [.slice none 0 0]) = some (.int .i64 0) := by kernel_rfl
@[simp] theorem len_49 (s : Nat) (es : List Value) (ty : TypeId) : rdLen P #[49] ty (some [rowV s es]) = some (.int .i64 (es.length : Int)) := rdLen_row s es (by kernel_rfl)
@[simp] theorem lenS_49 (ty : TypeId) (a : Addr) (n c : Nat) : rdLen P #[49] ty (some [.slice (some a) n c]) = some (.int .i64 (n : Int)) := rdLen_sl (by kernel_rfl)
@[simp] theorem lenN_49 (ty : TypeId) : rdLen P #[49] ty (some [.slice none 0 0]) = some (.int .i64 0) := by kernel_rfl
@[simp] theorem len_50 (s : Nat) (es : List Value) (ty : TypeId) : rdLen P #[50] ty (some [rowV s es]) = some (.int .i64 (es.length : Int)) := rdLen_row s es (by kernel_rfl)
@[simp] theorem lenS_50 (ty : TypeId) (a : Addr) (n c : Nat) : rdLen P #[50] ty (some [.slice (some a) n c]) = some (.int .i64 (n : Int)) := rdLen_sl (by kernel_rfl)
@[simp] theorem lenN_50 (ty : TypeId) : rdLen P #[50] ty (some [.slice none 0 0]) = some (.int .i64 0) := by kernel_rfl
@[simp] theorem len_53 (s : Nat) (es : List Value) (ty : TypeId) : rdLen P #[53] ty (some [rowV s es]) = some (.int .i64 (es.length : Int)) := rdLen_row s es (by kernel_rfl)
@[simp] theorem lenS_53 (ty : TypeId) (a : Addr) (n c : Nat) : rdLen P #[53] ty (some [.slice (some a) n c]) = some (.int .i64 (n : Int)) := rdLen_sl (by kernel_rfl)
@[simp] theorem lenN_53 (ty : TypeId) : rdLen P #[53] ty (some [.slice none 0 0]) = some (.int .i64 0) := by kernel_rfl
@[simp] theorem len_120 (s : Nat) (es : List Value) (ty : TypeId) : rdLen P #[120] ty (some [rowV s es]) = some (.int .i64 (es.length : Int)) := rdLen_row s es (by kernel_rfl)
@[simp] theorem lenS_120 (ty : TypeId) (a : Addr) (n c : Nat) : rdLen P #[120] ty (some [.slice (some a) n c]) = some (.int .i64 (n : Int)) := rdLen_sl (by kernel_rfl)
@[simp] theorem lenN_120 (ty : TypeId) : rdLen P #[120] ty (some [.slice none 0 0]) = some (.int .i64 0) := by kernel_rfl
theorem zero_31 : zeroC P 31 = some [(.int .i64 0), (.string ⟨⟨[]⟩⟩), (.int .i64 0), (.int .i64 0)] := by kernel_rfl
theorem zero_44 : zeroC P 44 = some [(.int .i64 0), (.int .i64 0), (.string ⟨⟨[]⟩⟩), (.slice none 0 0), (.slice none 0 0), (.slice none 0 0)] := by kernel_rfl
theorem zero_47 : zeroC P 47 = some [(.int .i64 0), (.int .i64 0), (.string ⟨⟨[]⟩⟩), (.slice none 0 0)] := by kernel_rfl
theorem zero_55 : zeroC P 55 = some [(.string ⟨⟨[]⟩⟩), (.slice none 0 0)] := by kernel_rfl
theorem zero_57 : zeroC P 57 = some [(.int .i64 0), (.int .i64 0), (.int .i64 0), (.string ⟨⟨[]⟩⟩), (.slice none 0 0), (.int .i64 0), (.int .i64 0), (.string ⟨⟨[]⟩⟩), (.slice none 0 0), (.slice none 0 0), (.slice none 0 0), (.slice none 0 0), (.slice none 0 0), (.string ⟨⟨[]⟩⟩), (.slice none 0 0), (.string ⟨⟨[]⟩⟩), (.slice none 0 0)] := by kernel_rfl
theorem zero_65 : zeroC P 65 = some [(.string ⟨⟨[]⟩⟩), (.slice none 0 0), (.int .i64 0), (.int .i64 0), (.string ⟨⟨[]⟩⟩), (.slice none 0 0), (.slice none 0 0), (.slice none 0 0)] := by kernel_rfl
theorem zero_138 : zeroC P 138 = some [(.int .i64 0), (.string ⟨⟨[]⟩⟩), (.slice none 0 0)] := by kernel_rfl
theorem zero_168 : zeroC P 168 = some [(.int .u8 0), (.int .u8 0), (.int .u8 0), (.int .u8 0), (.int .u8 0), (.int .u8 0), (.int .u8 0), (.int .u8 0), (.int .u8 0), (.int .u8 0), (.int .u8 0), (.int .u8 0), (.int .u8 0), (.int .u8 0), (.int .u8 0), (.int .u8 0), (.int .u8 0), (.int .u8 0), (.int .u8 0), (.int .u8 0)] := by kernel_rfl
theorem agg_2 : aggQ P 2 = some false := by kernel_rfl
theorem agg_3 : aggQ P 3 = some false := by kernel_rfl
theorem agg_4 : aggQ P 4 = some false := by kernel_rfl
theorem agg_5 : aggQ P 5 = some false := by kernel_rfl
theorem agg_9 : aggQ P 9 = some false := by kernel_rfl
theorem agg_24 : aggQ P 24 = some false := by kernel_rfl
theorem agg_29 : aggQ P 29 = some false := by kernel_rfl
theorem agg_31 : aggQ P 31 = some true := by kernel_rfl
theorem agg_41 : aggQ P 41 = some false := by kernel_rfl
theorem agg_42 : aggQ P 42 = some false := by kernel_rfl
theorem agg_44 : aggQ P 44 = some true := by kernel_rfl
theorem agg_47 : aggQ P 47 = some true := by kernel_rfl
theorem agg_48 : aggQ P 48 = some false := by kernel_rfl
theorem agg_52 : aggQ P 52 = some true := by kernel_rfl
theorem agg_55 : aggQ P 55 = some true := by kernel_rfl
theorem agg_57 : aggQ P 57 = some true := by kernel_rfl
theorem agg_182 : aggQ P 182 = some true := by kernel_rfl
theorem sz_2 : szOf P 2 = some 1 := by kernel_rfl
theorem sz_4 : szOf P 4 = some 1 := by kernel_rfl
theorem sz_5 : szOf P 5 = some 1 := by kernel_rfl
theorem sz_9 : szOf P 9 = some 1 := by kernel_rfl
theorem sz_24 : szOf P 24 = some 1 := by kernel_rfl
theorem sz_29 : szOf P 29 = some 1 := by kernel_rfl
theorem sz_31 : szOf P 31 = some 4 := by kernel_rfl
theorem sz_41 : szOf P 41 = some 1 := by kernel_rfl
theorem sz_42 : szOf P 42 = some 1 := by kernel_rfl
theorem sz_44 : szOf P 44 = some 6 := by kernel_rfl
theorem sz_47 : szOf P 47 = some 4 := by kernel_rfl
theorem sz_48 : szOf P 48 = some 1 := by kernel_rfl
theorem sz_52 : szOf P 52 = some 3 := by kernel_rfl
theorem sz_55 : szOf P 55 = some 2 := by kernel_rfl
theorem sz_57 : szOf P 57 = some 17 := by kernel_rfl
theorem sz_65 : szOf P 65 = some 8 := by kernel_rfl
theorem sz_138 : szOf P 138 = some 3 := by kernel_rfl
theorem sz_182 : szOf P 182 = some 7 := by kernel_rfl
@[simp] theorem beql_4 (H : T OB) (q a b : Bool) : rdBin P H .eql 4 q (some (.bool a)) (some (.bool b)) = some (.bool (a == b)) := by cases q <;> cases a <;> cases b <;> kernel_rfl
theorem cT {α : Type} (a b : α) : (bif true then a else b) = a := rfl
theorem cF {α : Type} (a b : α) : (bif false then a else b) = b := rfl
theorem eS {α : Type} (a : α) : (a = a) = True := eq_self a
theorem lN {α : Type} : ([] : List α).length = 0 := rfl
theorem stpF : type_of% (And.intro @cT (And.intro @cF (And.intro @eS (And.intro @lN (And.intro @oneCell_int (And.intro @oneCell_str (And.intro @oneCell_bool (And.intro @oneCell_row (And.intro @oneCell_ep (And.intro @oneCell_nilp (And.intro @optK_some (And.intro @ldV_int (And.intro @ldV_str (And.intro @ldV_bool (And.intro @ldV_row (And.intro @ldV_ep (And.intro @ldV_nilp (And.intro @rdBin_add (And.intro @rdBin_sub (And.intro @rdBin_mul (And.intro @rdBin_lss (And.intro @rdBin_leq (And.intro @rdBin_gtr (And.intro @rdBin_geq (And.intro @rdBin_eql (And.intro @rdBin_neq (And.intro @rdBin_seql (And.intro @rdBin_sneq (And.intro @unV_not (And.intro @bvK_bool (And.intro @bK_true (And.intro @bK_false (And.intro @Bool.not_true (And.intro @Bool.not_false (And.intro @Bool.not_not (And.intro @rdNil_ep (And.intro @rdNil_ptr (And.intro @oneCell_sl (And.intro @ldV_sl (And.intro @vEq_self (And.intro @Int.cast_ofNat_Int (And.intro @decide_true (And.intro @decide_false (And.intro @Bool.and_self (And.intro @fa_31_0 (And.intro @fa_31_1 (And.intro @fa_31_2 (And.intro @fa_44_0 (And.intro @fa_44_1 (And.intro @fa_44_2 (And.intro @fa_44_3 (And.intro @fa_44_4 (And.intro @fa_44_5 (And.intro @fa_47_0 (And.intro @fa_47_1 (And.intro @fa_47_2 (And.intro @fa_47_3 (And.intro @fa_52_0 (And.intro @fa_52_1 (And.intro @fa_52_2 (And.intro @fa_55_0 (And.intro @fa_55_1 (And.intro @fa_57_0 (And.intro @fa_57_1 (And.intro @fa_57_2 (And.intro @fa_57_3 (And.intro @fa_57_4 (And.intro @fa_57_5 (And.intro @fa_65_0 (And.intro @fa_65_1 (And.intro @fa_65_2 (And.intro @fa_116_0 (And.intro @fa_116_1 (And.intro @fa_138_0 (And.intro @fa_138_1 (And.intro @fa_138_2 (And.intro @fp_31_0 (And.intro @fp_31_1 (And.intro @fp_31_2 (And.intro @fp_31_3 (And.intro @fp_44_0 (And.intro @fp_44_1 (And.intro @fp_44_2 (And.intro @fp_44_3 (And.intro @fp_44_4 (And.intro @fp_44_5 (And.intro @fp_47_0 (And.intro @fp_47_1 (And.intro @fp_47_2 (And.intro @fp_47_3 (And.intro @fp_55_0 (And.intro @fp_55_1 (And.intro @fp_57_0 (And.intro @fp_57_1 (And.intro @fp_57_2 (And.intro @fp_57_3 (And.intro @fp_57_4 (And.intro @fp_57_5 (And.intro @fp_65_0 (And.intro @fp_65_1 (And.intro @fp_65_2 (And.intro @fp_116_0 (And.intro @fp_116_1 (And.intro @fp_138_0 (And.intro @fp_138_1 (And.intro @fp_138_2 (And.intro @ld_2 (And.intro @ld_3 (And.intro @ld_4 (And.intro @ld_9 (And.intro @ld_24 (And.intro @ld_29 (And.intro @ld_31 (And.intro @ld_41 (And.intro @ld_42 (And.intro @ld_44 (And.intro @ld_47 (And.intro @ld_48 (And.intro @ld_49 (And.intro @ld_50 (And.intro @ld_52 (And.intro @ld_53 (And.intro @ld_55 (And.intro @ld_57 (And.intro @ld_65 (And.intro @ld_138 (And.intro @ld_182 (And.intro @len_9 (And.intro @len_24 (And.intro @lenS_24 (And.intro @lenN_24 (And.intro @len_29 (And.intro @lenS_29 (And.intro @lenN_29 (And.intro @len_41 (And.intro @lenS_41 (And.intro @lenN_41 (And.intro @len_42 (And.intro @lenS_42 (And.intro @lenN_42 (And.intro @len_48 (And.intro @lenS_48 (And.intro @lenN_48 (And.intro @len_49 (And.intro @lenS_49 (And.intro @lenN_49 (And.intro @len_50 (And.intro @lenS_50 (And.intro @lenN_50 (And.intro @len_53 (And.intro @lenS_53 (And.intro @lenN_53 (And.intro @len_120 (And.intro @lenS_120 (And.intro @lenN_120 @beql_4))))))))))))))))))))))))))))))))))))))))))))))))))))))))))))))))))))))))))))))))))))))))))))))))))))))))))))))))))))))))))))))))))))))))))))))))))))))))))) := And.intro @cT (And.intro @cF (And.intro @eS (And.intro @lN (And.intro @oneCell_int (And.intro @oneCell_str (And.intro @oneCell_bool (And.intro @oneCell_row (And.intro @oneCell_ep (And.intro @oneCell_nilp (And.intro @optK_some (And.intro @ldV_int (And.intro @ldV_str (And.intro @ldV_bool (And.intro @ldV_row (And.intro @ldV_ep (And.intro @ldV_nilp (And.intro @rdBin_add (And.intro @rdBin_sub (And.intro @rdBin_mul (And.intro @rdBin_lss (And.intro @rdBin_leq (And.intro @rdBin_gtr (And.intro @rdBin_geq (And.intro @rdBin_eql (And.intro @rdBin_neq (And.intro @rdBin_seql (And.intro @rdBin_sneq (And.intro @unV_not (And.intro @bvK_bool (And.intro @bK_true (And.intro @bK_false (And.intro @Bool.not_true (And.intro @Bool.not_false (And.intro @Bool.not_not (And.intro @rdNil_ep (And.intro @rdNil_ptr (And.intro @oneCell_sl (And.intro @ldV_sl (And.intro @vEq_self (And.intro @Int.cast_ofNat_Int (And.intro @decide_true (And.intro @decide_false (And.intro @Bool.and_self (And.intro @fa_31_0 (And.intro @fa_31_1 (And.intro @fa_31_2 (And.intro @fa_44_0 (And.intro @fa_44_1 (And.intro @fa_44_2 (And.intro @fa_44_3 (And.intro @fa_44_4 (And.intro @fa_44_5 (And.intro @fa_47_0 (And.intro @fa_47_1 (And.intro @fa_47_2 (And.intro @fa_47_3 (And.intro @fa_52_0 (And.intro @fa_52_1 (And.intro @fa_52_2 (And.intro @fa_55_0 (And.intro @fa_55_1 (And.intro @fa_57_0 (And.intro @fa_57_1 (And.intro @fa_57_2 (And.intro @fa_57_3 (And.intro @fa_57_4 (And.intro @fa_57_5 (And.intro @fa_65_0 (And.intro @fa_65_1 (And.intro @fa_65_2 (And.intro @fa_116_0 (And.intro @fa_116_1 (And.intro @fa_138_0 (And.intro @fa_138_1 (And.intro @fa_138_2 (And.intro @fp_31_0 (And.intro @fp_31_1 (And.intro @fp_31_2 (And.intro @fp_31_3 (And.intro @fp_44_0 (And.intro @fp_44_1 (And.intro @fp_44_2 (And.intro @fp_44_3 (And.intro @fp_44_4 (And.intro @fp_44_5 (And.intro @fp_47_0 (And.intro @fp_47_1 (And.intro @fp_47_2 (And.intro @fp_47_3 (And.intro @fp_55_0 (And.intro @fp_55_1 (And.intro @fp_57_0 (And.intro @fp_57_1 (And.intro @fp_57_2 (And.intro @fp_57_3 (And.intro @fp_57_4 (And.intro @fp_57_5 (And.intro @fp_65_0 (And.intro @fp_65_1 (And.intro @fp_65_2 (And.intro @fp_116_0 (And.intro @fp_116_1 (And.intro @fp_138_0 (And.intro @fp_138_1 (And.intro @fp_138_2 (And.intro @ld_2 (And.intro @ld_3 (And.intro @ld_4 (And.intro @ld_9 (And.intro @ld_24 (And.intro @ld_29 (And.intro @ld_31 (And.intro @ld_41 (And.intro @ld_42 (And.intro @ld_44 (And.intro @ld_47 (And.intro @ld_48 (And.intro @ld_49 (And.intro @ld_50 (And.intro @ld_52 (And.intro @ld_53 (And.intro @ld_55 (And.intro @ld_57 (And.intro @ld_65 (And.intro @ld_138 (And.intro @ld_182 (And.intro @len_9 (And.intro @len_24 (And.intro @lenS_24 (And.intro @lenN_24 (And.intro @len_29 (And.intro @lenS_29 (And.intro @lenN_29 (And.intro @len_41 (And.intro @lenS_41 (And.intro @lenN_41 (And.intro @len_42 (And.intro @lenS_42 (And.intro @lenN_42 (And.intro @len_48 (And.intro @lenS_48 (And.intro @lenN_48 (And.intro @len_49 (And.intro @lenS_49 (And.intro @lenN_49 (And.intro @len_50 (And.intro @lenS_50 (And.intro @lenN_50 (And.intro @len_53 (And.intro @lenS_53 (And.intro @lenN_53 (And.intro @len_120 (And.intro @lenS_120 (And.intro @lenN_120 @beql_4))))))))))))))))))))))))))))))))))))))))))))))))))))))))))))))))))))))))))))))))))))))))))))))))))))))))))))))))))))))))))))))))))))))))))))))))))))))))))
end
end Go.Proofs.YthjhonhhbddhkaaGreatDoor
