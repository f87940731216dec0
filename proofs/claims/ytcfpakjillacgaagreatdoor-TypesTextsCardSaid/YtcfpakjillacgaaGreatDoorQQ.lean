/- Rows that are made, lengthened and handed out by value. -/
import Derived.Test.YtcfpakjillacgaaGreatDoorQP
namespace Go.Ev
noncomputable section
set_option linter.unusedVariables false
variable {P : Program} {pl : Pol} {X : Ext} {H H0 H1 : T OB} {nx nx0 nx1 : Nat} {v u : Value} {R : Value → T OB → Nat → Prop}
theorem Wq.new {e : TypeId} {l : List Value} {q : T OB → Nat → Q} (h : Ag nx0 H0 nx H) (hk : ∀ H', IsB H' nx l e → (∀ b l e, b < nx → IsB H b l e → IsB H' b l e) → Ag nx0 H0 (nx + 1) H' → WqR P pl X (q H' (nx + 1)) nx0 H0 R) :
    WqR P pl X (q (Ev.set H (bits nx) (some (newOB l e))) (nx + 1)) nx0 H0 R := hk _ (IsB.new l e) (fun b l e hb h => h.other (by omega) _) (h.succ.set h.1 _)
/-- A row that is written out. -/
theorem Wq.row {t e : TypeId} {s n : Nat} {vs : List (Nat × Value)} {z l : List Value} {k : Value → T OB → Nat → Q} (hu : P.underlying t = some (.slice e)) (hs : szOf P e = some s) (hz : zeroC P e = some z)
    (hg : (Nat.ble (n * s) 16777216 && Nat.blt 0 (n * s) && Nat.blt 0 z.length) = true) (hf : Instr.fill (fun i => some (i * s, s)) (zeroRow z (n * s)) vs = some ⟨l⟩) (h : Ag nx0 H0 nx H)
    (hk : ∀ H', IsB H' nx l e → (∀ b l e, b < nx → IsB H b l e → IsB H' b l e) → Ag nx0 H0 (nx + 1) H' → WqR P pl X (k (.slice (some ⟨nx, 0, none⟩) n n) H' (nx + 1)) nx0 H0 R) :
    WqR P pl X (effQ (efBuildSlice P H nx t n (some vs)) k) nx0 H0 R := by
  have e1 : effQ (efBuildSlice P H nx t n (some vs)) k = k (.slice (some ⟨nx, 0, none⟩) n n) (Ev.set H (bits nx) (some (newOB l e))) (nx + 1) := by
    unfold efBuildSlice sliceTK
    rw [optK_some, hu]
    simp only [hs, optK_some, hz, hg, cond_true, hf]
    rw [newK_eq, natF_eq]
    rfl
  rw [e1]
  exact Wq.new h hk
/-- What is handed to an append: how many, and their cells. -/
theorem xsOf_b {b s n c : Nat} {l : List Value} {e : TypeId} (h : IsB H b l e) (hn : l.length = n * s) : xsOf H s (.slice (some ⟨b, 0, none⟩) n c) = some (n, l) := by
  obtain ⟨tr, h1, h2⟩ := h
  show optK (cellsOf H s (some ⟨b, 0, none⟩) n) (fun l => some (n, l)) none = _
  unfold cellsOf
  simp only
  rw [h1]
  show optK (bif Nat.ble (0 + n * s) l.length then toL tr (n * s) 0 else none) (fun l => some (n, l)) none = _
  rw [Nat.zero_add, hn, Nat.ble_eq_true_of_le (Nat.le_refl _), cond_true, ← hn, toL_of h2 _ _ (by omega)]
  simp
theorem xsOf_nil (s : Nat) : xsOf H s (.slice none 0 0) = some (0, []) := rfl
theorem xsOf_row (s : Nat) (es : List Value) : xsOf H s (rowV s es) = some (es.length, es.flatMap fun u => u.cells.toList) := by
  show (bif Nat.beq s s then some (es.length, es.flatMap fun u => u.cells.toList) else none) = _
  rw [Nat.beq_refl]; rfl
/-- An append of a row. -/
def isStr (v : Value) : Bool := match v with
  | .string _ => true
  | _ => false
theorem efAppS_eq {t : TypeId} {x : Value} {base : Option Addr} {sl sc : Nat} (hx : isStr x = false) : efAppS P H nx [t, t] (some [.slice base sl sc, x]) = sliceTK P t (fun e s => optK (xsOf H s x) (fun p => bif apSmall P e s (sl + p.1) then apGo P H nx e s base sl sc p.1 p.2 else .bad) .bad) .bad := by
  have e1 : efAppS P H nx [t, t] (some [.slice base sl sc, x]) = efAppend P H nx [t, t] (some [.slice base sl sc, x]) := by cases x <;> first | rfl | cases hx
  rw [e1]
  show (bif !Nat.beq t t then Eff.bad else _) = _
  rw [Nat.beq_refl]; rfl
theorem Wq.app0 {t e : TypeId} {s m : Nat} {x : Value} {xs : List Value} {k : Value → T OB → Nat → Q} (hu : P.underlying t = some (.slice e)) (hs : szOf P e = some s) (hx : isStr x = false) (hxs : xsOf H s x = some (m, xs)) (hsm : apSmall P e s m = true) (h : Ag nx0 H0 nx H)
    (h0 : m = 0 → WqR P pl X (k (.slice none 0 0) H nx) nx0 H0 R)
    (hk : ∀ H', 0 < m → IsB H' nx xs e → (∀ b l e, b < nx → IsB H b l e → IsB H' b l e) → Ag nx0 H0 (nx + 1) H' → WqR P pl X (k (.slice (some ⟨nx, 0, none⟩) m unk) H' (nx + 1)) nx0 H0 R) :
    WqR P pl X (effQ (efAppS P H nx [t, t] (some [.slice none 0 0, x])) k) nx0 H0 R := by
  rw [efAppS_eq hx]
  unfold sliceTK
  rw [hu]
  simp only [hs, optK_some, hxs, Nat.zero_add, hsm, cond_true]
  show WqR P pl X (effQ (bif Nat.beq 0 0 && Nat.beq 0 0 then (bif Nat.beq m 0 then .val (.slice none 0 0) H nx else apNew H nx e m xs) else .bad) k) nx0 H0 R
  cases m with
  | zero => exact h0 rfl
  | succ m =>
    show WqR P pl X (effQ (apNew H nx e (m + 1) xs) k) nx0 H0 R
    rw [newK_mk]
    exact Wq.new (q := fun H n => k (.slice (some ⟨nx, 0, none⟩) (m + 1) unk) H n) h fun H' a b c => hk H' (Nat.succ_pos _) a b c
theorem Wq.app {t e e' : TypeId} {b s n m : Nat} {x : Value} {l xs : List Value} {k : Value → T OB → Nat → Q} (hu : P.underlying t = some (.slice e)) (hs : szOf P e = some s) (hb : IsB H b l e') (hs' : szOf P e' = some s) (hl : l.length = n * s) (hx : isStr x = false) (hxs : xsOf H s x = some (m, xs))
    (hone : xs.all oneCell = true) (hsm : apSmall P e s (n + m) = true) (h : Ag nx0 H0 nx H) (hbn : nx0 ≤ b) (hbx : b < nx)
    (hk : ∀ H', IsB H' nx (l ++ xs) e → (∀ c l e, c ≠ b → c < nx → IsB H c l e → IsB H' c l e) → Ag nx0 H0 (nx + 1) H' → WqR P pl X (k (.slice (some ⟨nx, 0, none⟩) (n + m) unk) H' (nx + 1)) nx0 H0 R) :
    WqR P pl X (effQ (efAppS P H nx [t, t] (some [.slice (some ⟨b, 0, none⟩) n unk, x])) k) nx0 H0 R := by
  rw [efAppS_eq hx]
  unfold sliceTK
  rw [hu]
  simp only [hs, optK_some, hxs, hsm, cond_true]
  obtain ⟨tr, h1, h2⟩ := hb
  have e1 : apGo P H nx e s (some ⟨b, 0, none⟩) n unk m xs = apNew (Ev.set H (bits b) (some .dead)) nx e (n + m) (l ++ xs) := by
    show apAt P H nx e s b 0 n unk m xs = _
    unfold apAt
    rw [h1]
    have eu : Nat.beq unk unk = true := Nat.beq_refl _
    simp only [cellsK, eu, cond_true]
    unfold apU esIs
    rw [h1]
    show (bif Nat.beq 0 0 && Nat.ble (n * s) l.length && optK (szOf P e') (fun z => Nat.beq z s) false && xs.all oneCell then _ else _) = _
    rw [hs', optK_some, Nat.beq_refl, hl, Nat.ble_eq_true_of_le (Nat.le_refl _), hone]
    have : toL tr (n * s) 0 = some l := by rw [← hl, toL_of h2 _ _ (by omega)]; simp
    rw [this, Nat.beq_refl]
    show setK (bits b) H (some .dead) (fun H => apNew H nx e (n + m) (l ++ xs)) = _
    rw [setK_set]
  rw [e1, newK_mk]
  exact Wq.new (q := fun H n' => k (.slice (some ⟨nx, 0, none⟩) (n + m) unk) H n') (h.set hbn _) fun H' ha hb hc => hk H' ha (fun c l e hcb hcn hi => hb c l e hcn (hi.other hcb _)) hc
/-- A row is handed out by value. -/
theorem chunk_cells : ∀ (l : List Value), chunk false 1 l.length l = some l
  | [] => rfl
  | v :: l => by
    show (bif Nat.ble 1 (l.length + 1) then optK (chunk false 1 l.length l) (fun r => bK false _ (optK (some v) (fun v => some (v :: r)) none)) none else none) = _
    rw [Nat.ble_eq_true_of_le (by omega), chunk_cells l]; rfl
theorem chunk_aggs (s : Nat) : ∀ (es : List (List Value)), (∀ x, x ∈ es → x.length = s) → chunk true s es.length es.flatten = some (es.map fun x => .agg ⟨x⟩)
  | [], _ => rfl
  | x :: es, h => by
    have hx := h x List.mem_cons_self
    show (bif Nat.ble s (x ++ es.flatten).length then optK (chunk true s es.length ((x ++ es.flatten).drop s)) (fun r => some (.agg ⟨(x ++ es.flatten).take s⟩ :: r)) none else none) = _
    rw [Nat.ble_eq_true_of_le (by simp; omega), ← hx, List.drop_left, List.take_left, hx, chunk_aggs s es fun y hy => h y (List.mem_cons_of_mem _ hy)]
    rfl
theorem Wq.frz {t e e' : TypeId} {b s n c : Nat} {a : Bool} {l es : List Value} {k : Value → T OB → Nat → Q} (hu : P.underlying t = some (.slice e)) (hs : szOf P e = some s) (ha : aggQ P e = some a) (hpos : (Nat.blt 0 s && (a || Nat.beq s 1)) = true) (hb : IsB H b l e') (hl : l.length = n * s)
    (hc : (Nat.beq c unk || Nat.ble n c) = true) (hch : chunk a s n l = some es) (hone : (es.all fun x => Ev.bK a true (oneCell x)) = true) (h : Ag nx0 H0 nx H) (hbn : nx0 ≤ b)
    (hk : ∀ H', (∀ c l e, c ≠ b → IsB H c l e → IsB H' c l e) → Ag nx0 H0 (nx + 1) H' → WqR P pl X (k (rowV s es) H' (nx + 1)) nx0 H0 R) :
    WqR P pl X (frzV P t (.slice (some ⟨b, 0, none⟩) n c) H nx k) nx0 H0 R := by
  obtain ⟨tr, h1, h2⟩ := hb
  have e2 : frzS P H e b 0 n = some (rowV s es) := by
    unfold frzS
    rw [h1]
    show optK (szOf P e) (fun s => optK (aggQ P e) (fun a => bif Nat.ble (0 + n * s) l.length && Nat.blt 0 s && (a || Nat.beq s 1) then _ else none) none) none = _
    rw [hs, optK_some, ha, optK_some, Nat.zero_add, hl, Nat.ble_eq_true_of_le (Nat.le_refl _), Bool.true_and, hpos, cond_true]
    have : toL tr (n * s) 0 = some l := by rw [← hl, toL_of h2 _ _ (by omega)]; simp
    rw [this, optK_some, hch, optK_some, hone]
    rfl
  have e1 : frzV P t (.slice (some ⟨b, 0, none⟩) n c) H nx k = k (rowV s es) (Ev.set H (bits b) (some .dead)) (nx + 1) := by
    unfold frzV
    rw [hu]
    simp only
    unfold frz1
    rw [hu]
    simp only
    rw [hc, cond_true, e2, optK_some, setK_set, natF_eq]
  rw [e1]
  exact hk _ (fun c l e hc hi => hi.other hc _) ((h.set hbn _).succ)
/-! by number -/
theorem rdFA_ptr {s : TypeId} {f d b o : Nat} (h : fieldOff P s f = some d) : rdFieldAddr P s (some (.pointer (some ⟨b, o, none⟩))) f = some (.pointer (some ⟨b, o + d, none⟩)) := by
  show faV (fieldOff P s f) (fieldIn P s f) (.pointer (some ⟨b, o, none⟩)) = _
  rw [h]
  show natF (Nat.add o d) (fun o => some (Value.pointer (some ⟨b, o, none⟩))) = _
  rw [natF_eq]; rfl
theorem rdIndex_sl {t : TypeId} {s b off len c i : Nat} (hs : elSz P t = some s) (hi : i < len) (k : IntKind) : rdIndexAddr P t (some (.slice (some ⟨b, off, none⟩) len c)) (some (.int k (i : Int))) = some (.pointer (some ⟨b, off + i * s, none⟩)) := by
  show intNK (i : Int) (rdIA P t (some (.slice (some ⟨b, off, none⟩) len c))) none = _
  rw [intNK_ofNat]
  show optK (elSz P t) (fun s => bif Nat.blt i len then natF (Nat.add off (Nat.mul i s)) (fun o => some (Value.pointer (some ⟨b, o, none⟩))) else none) none = _
  rw [hs, optK_some, show Nat.blt i len = true from Nat.ble_eq_true_of_le hi, cond_true, natF_eq]
  rfl
theorem rdLen_sl {t ty : TypeId} {a : Addr} {n c : Nat} (h : isSliceT P (some t) = true) : rdLen P #[t] ty (some [.slice (some a) n c]) = some (.int .i64 (n : Int)) := by
  show (bif isSliceT P (some t) then some (Value.int .i64 (.ofNat n)) else none) = _
  rw [h]; rfl
@[simp] theorem ldV_sl (a : Option Addr) (n c : Nat) : ldV (some false) (some 1) (.slice a n c) = some (.slice a n c) := rfl
@[simp] theorem oneCell_sl (a : Option Addr) (n c : Nat) : oneCell (.slice a n c) = true := rfl
@[simp] theorem rdNil_ep (u : Value) : rdNil (some (eptrV u)) = some (eptrV u) := rfl
@[simp] theorem rdNil_ptr (a : Addr) : rdNil (some (.pointer (some a))) = some (.pointer (some a)) := rfl
theorem Wq.mk {t e : TypeId} {i : TypeInfo} {n c : Nat} {z : List Value} {k : Value → T OB → Nat → Q} (hu : P.underlying t = some (.slice e)) (hi : P.info? e = some i) (hz : zeroC P e = some z)
    (hg : (Nat.ble n c && Nat.ble (i.bytes * c) 281474976710656 && Nat.ble c 274877906944 && Nat.beq i.size z.length && Nat.blt 0 i.size) = true) (h1 : z.length ≠ 1) (hc : Nat.ble (c * i.size) 40000 = true) (h : Ag nx0 H0 nx H)
    (hk : ∀ H', IsB H' nx (rowL z c) e → (∀ b l e, b < nx → IsB H b l e → IsB H' b l e) → Ag nx0 H0 (nx + 1) H' → WqR P pl X (k (.slice (some ⟨nx, 0, none⟩) n c) H' (nx + 1)) nx0 H0 R) :
    WqR P pl X (effQ (efMakeSlice P H nx t (some (.int .i64 (n : Int))) (some (.int .i64 (c : Int)))) k) nx0 H0 R := by
  have e1 : efMakeSlice P H nx t (some (.int .i64 (n : Int))) (some (.int .i64 (c : Int))) = mkSl P H nx e n c := by
    unfold efMakeSlice
    rw [hu]
    show intNK (n : Int) (fun l => intNK (c : Int) (fun c => mkSl P H nx e l c) .bad) .bad = _
    rw [intNK_ofNat, intNK_ofNat]
  have e2 : mkSl P H nx e n c = .val (.slice (some ⟨nx, 0, none⟩) n c) (Ev.set H (bits nx) (some (newOB (rowL z c) e))) (nx + 1) := by
    unfold mkSl
    rw [hi, hz]
    simp only
    rw [hg, cond_true]
    split
    · rename_i z'; exact absurd rfl h1
    · rw [hc, cond_true, newK_eq]
  rw [e1, e2]
  exact Wq.new (q := fun H n' => k (.slice (some ⟨nx, 0, none⟩) n c) H n') h hk
/-- A call, its arguments in memory. -/
theorem Wq.callR {f : FuncId} {args : List Value} {R1 : Value → T OB → Nat → Prop} {k p : Value → T OB → Nat → Q} (hx : X f args = none) (h : WqR P pl X (evT P pl (.call f args false none H nx)) nx0 H0 R1)
    (hk : ∀ u H' nx', Ag nx0 H0 nx' H' → R1 u H' nx' → WqR P pl X (k u H' nx') nx0 H0 R) : WqR P pl X (callQ (.call f args false none H nx) k p) nx0 H0 R := by
  obtain ⟨u, H1, nx1, h1, hR1, h2⟩ := h
  obtain ⟨v, H2, nx2, h3, hR, h4⟩ := hk u H1 nx1 h1 hR1
  refine ⟨v, H2, nx2, h3, hR, ?_⟩
  show optK (F P pl X (.call f args false none H nx)) (fun r => (match r.o with | .ret v => k v r.H r.nx | .pan v => p v r.H r.nx : Q).run (F P pl X)) none = _
  have e1 : F P pl X (.call f args false none H nx) = some ⟨.ret u, false, H1, nx1⟩ := by
    rw [F_eq]
    show @Option.rec Value (fun _ => Option Rt) _ (fun v => some ⟨.ret v, false, H, nx⟩) (X f args) = _
    rw [hx]
    exact h2
  rw [e1]
  exact h4
theorem Wq.callAt {f : FuncId} {args : List Value} {k p : Value → T OB → Nat → Q} (hx : X f args = none) (h : Wq P pl X (evT P pl (.call f args false none H nx)) nx0 H0 u)
    (hk : ∀ H' nx', Ag nx0 H0 nx' H' → WqR P pl X (k u H' nx') nx0 H0 R) : WqR P pl X (callQ (.call f args false none H nx) k p) nx0 H0 R :=
  Wq.callR hx h fun u' H' nx' hA hu => by subst hu; exact hk H' nx' hA
theorem frz_sl {t e : TypeId} {x : Value} {k : Value → T OB → Nat → Q} (hu : P.underlying t = some (.slice e)) : frz1 P t x H nx k = frzV P t x H nx k := by
  unfold frzV
  rw [hu]
theorem max_int (ts : Array TypeId) (t : TypeId) (a b : Int) : bltV P .max ts t (some [.int .i64 a, .int .i64 b]) = some (.int .i64 (if b > a then b else a)) := by
  show (bif true && (true && true) then nextV (pureRun P (builtin .max ts t #[] ⟨[.int .i64 a, .int .i64 b]⟩)) else none) = _
  have e : pureRun P (builtin .max ts t #[] ⟨[.int .i64 a, .int .i64 b]⟩) = some (.value (.int .i64 (if b > a then b else a))) := by
    simp only [builtin, Builtin.max_]
    simp [pureRun_bind, Builtin.max2]
    rfl
  rw [e]
  show (valF (.int .i64 (if b > a then b else a)) fun v => bif flat v then some v else none) = _
  rw [valF_eq]; rfl
/-- A variable that is written once, and what stays behind it. -/
theorem Wq.varB {e t : TypeId} {l : List Value} {s : Nat} {x : Value} {k : T OB → Nat → Q} (hz : zeroC P e = some l) (hs : szOf P t = some s) (hl : l.length = s) (hx : x.cells.toList.length = s) (hone : x.cells.toList.all oneCell = true)
    (h : Ag nx0 H0 nx H) (hk : ∀ H' nx', Ag nx0 H0 nx' H' → nx ≤ nx' → (∀ b l e, b < nx → IsB H b l e → IsB H' b l e) → WqR P pl X (k H' nx') nx0 H0 R) : WqR P pl X (effQ (efAlloc P H nx e) fun p H nx => frSt P H nx t (some p) x k) nx0 H0 R := by
  rw [effQ_alloc hz]
  have hg : (Ev.set H (bits nx) (some (newOB l e))).get (bits nx) = some (newOB l e) := by rw [get_at, if_pos rfl]
  have e1 : frSt P (Ev.set H (bits nx) (some (newOB l e))) (nx + 1) t (some (ptrAt nx)) x k = k (Ev.set (Ev.set H (bits nx) (some (newOB l e))) (bits nx) (some .dead)) (nx + 1 + 1) := by
    show cellsQ ((Ev.set H (bits nx) (some (newOB l e))).get (bits nx)) (fun n _ _ => optK (szOf P t) (fun s => bif Nat.beq 0 0 && (Nat.beq n s && (Nat.beq x.cells.toList.length s && x.cells.toList.all oneCell)) then
      setK (bits nx) (Ev.set H (bits nx) (some (newOB l e))) (some .dead) fun H => Ev.natF (Nat.succ (nx + 1)) fun n => k H n else .bad) .bad) = _
    rw [hg]
    show optK (szOf P t) (fun s => bif Nat.beq 0 0 && (Nat.beq l.length s && (Nat.beq x.cells.toList.length s && x.cells.toList.all oneCell)) then
      setK (bits nx) (Ev.set H (bits nx) (some (newOB l e))) (some .dead) fun H => Ev.natF (Nat.succ (nx + 1)) fun n => k H n else .bad) .bad = _
    rw [hs, optK_some, hl, hx, hone, setK_set, natF_eq]
    have e2 : Nat.beq s s = true := Nat.beq_refl s
    rw [e2]
    rfl
  rw [e1]
  exact hk _ _ ((((h.set h.1 _).succ).set h.1 _).succ) (by omega) fun b l e hb hi => (hi.other (by omega) _).other (by omega) _
end
end Go.Ev
