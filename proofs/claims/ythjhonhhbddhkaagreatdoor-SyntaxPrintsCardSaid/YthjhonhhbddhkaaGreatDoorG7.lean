/- The world before the call: what is there is held by value. -/
import Derived.Test.YthjhonhhbddhkaaGreatDoorG3
import Derived.Laws.Tables
import Derived.ShapedOpen
import Derived.Deep.Slices
import Derived.Lib.LaidTab
import Derived.Test.YthjhonhhbddhkaaGreatDoorG4
import Derived.Test.YthjhonhhbddhkaaGreatDoorG5
import Derived.Test.YthjhonhhbddhkaaGreatDoorG6
namespace Go.Ev
noncomputable section
set_option linter.unusedVariables false
open Go.RowKit (Below)
variable {P : Program} {W : World} {φ : Phi}
def fzOf (W : World) (k : Nat) : Option (Array Value) := match W.heap[k]? with
 | some (.cells c _ _) => some c
 | _ => none
def phiW (W : World) : Phi := (List.range W.heap.size).map fun k => some ⟨k, 0, 0, fzOf W k⟩
theorem phiW_length (W : World) : (phiW W).length = W.heap.size := by simp [phiW]
theorem phiW_get {k : Nat} {e : Ent} (h : (phiW W)[k]? = some (some e)) : k < W.heap.size /\ e = ⟨k, 0, 0, fzOf W k⟩ := by
 unfold phiW at h
 rw [List.getElem?_map] at h
 by_cases hk : k < W.heap.size
 . rw [List.getElem?_range hk] at h
   simp at h
   exact ⟨hk, h.symm⟩
 . rw [List.getElem?_eq_none (by simp; omega)] at h
   cases h
theorem phiW_at {k : Nat} (h : k < W.heap.size) : (phiW W)[k]? = some (some ⟨k, 0, 0, fzOf W k⟩) := by
 unfold phiW
 rw [List.getElem?_map, List.getElem?_range h]
 rfl
theorem hp_leaf (k : Nat) : hp (.leaf : T OB) k = none := by simp [hp]
theorem HR_W (hg : P.globals.size <= W.heap.size) : HR P W (phiW W) (hp .leaf) W where
 below := .refl _ _
 dom := fun k ob h => by rw [hp_leaf] at h; cases h
 rng := fun k e h => by obtain ⟨h1, rfl⟩ := phiW_get h; exact h1
 inj := fun k k' ob ob' e e' _ _ h => by rw [hp_leaf] at h; cases h
 obj := fun k ob e h => by rw [hp_leaf] at h; cases h
 gl := fun k hk => ⟨_, phiW_at (by omega), rfl⟩
 fzr := fun k e c h hf => by
  obtain ⟨h1, rfl⟩ := phiW_get h
  unfold fzOf at hf
  dsimp only at hf ⊢
  split at hf
  . rename_i c' el fz hc
    cases hf
    exact ⟨el, fz, hc⟩
  . cases hf
 fzl := fun k k' e e' c ob _ _ _ h => by rw [hp_leaf] at h; cases h
theorem globals_le (h : W.ShapedOpen P) (hw : P.globals.size < (begin P (fun _ _ => 0) default).world.heap.size) : P.globals.size <= W.heap.size := by
 obtain ⟨o, _, h1, _⟩ := h.2 P.globals.size (Nat.le_refl _) hw
 have := (Array.getElem?_eq_some_iff.1 h1).1
 omega
theorem fz_cell {a : Addr} {v : Value} (h : W.cell? a = some v) : a.block < W.heap.size /\ a.spot = none /\ ∃ c, fzOf W a.block = some c /\ c[a.off]? = some v := by
 unfold World.cell? at h
 unfold fzOf
 split at h
 . rename_i c el fz hc
   split at h
   . cases h
   . rename_i hs
     refine ⟨(Array.getElem?_eq_some_iff.1 hc).1, by simpa using hs, c, by rw [hc], h⟩
 . cases h
theorem add_none0 (a : Addr) : a.add 0 = a := rfl
theorem VR_row {a : Addr} {len cap s : Nat} {es : List Value} (hlen : es.length = len) (hs : ∀ x, x ∈ es -> x.cells.toList.length = s) (hpos : 0 < s) (hcap : len <= cap)
 (hx : ∀ (i : Nat) (x : Value), es[i]? = some x -> ∃ cs, W.cells? 0 (a.add (i * s)) s = some cs /\ LR (phiW W) x.cells.toList cs) : VR (phiW W) (rowV s es) (.slice (some a) len cap) := by
 cases es with
 | nil => subst hlen; exact .rowE s a cap
 | cons x0 es =>
   obtain ⟨cs0, h0, hl0⟩ := hx 0 x0 rfl
   obtain ⟨_, hn0, hc0⟩ := World.cells?_some h0
   have e0 := hc0 0 hpos
   rw [Nat.zero_mul, add_none0, add_none0, List.getElem?_eq_getElem (by omega)] at e0
   obtain ⟨hb, hsp, c, hc, _⟩ := fz_cell e0
   obtain ⟨b, o, sp⟩ := a
   dsimp only at hb hsp hc
   subst hsp
   have key : ∀ (i j : Nat) (x v : Value), (x0 :: es)[i]? = some x -> x.cells.toList[j]? = some v -> ∃ v', c[o + i * s + j]? = some v' /\ VR (phiW W) v v' := by
    intro i j x v hi hj
    obtain ⟨cs, h1, h2⟩ := hx i x hi
    obtain ⟨_, hn, hc1⟩ := World.cells?_some h1
    have hjs : j < s := by
     have := (List.getElem?_eq_some_iff.1 hj).1
     rw [hs x (List.mem_of_getElem? hi)] at this
     exact this
    have e1 := hc1 j hjs
    rw [List.getElem?_eq_getElem (by omega)] at e1
    have e2 := e1
    rw [add_none, add_none] at e1
    obtain ⟨_, _, c', hc', e3⟩ := fz_cell e1
    dsimp only at hc' e3
    rw [hc] at hc'
    cases hc'
    exact ⟨_, e3, h2.at_ j v _ hj (List.getElem?_eq_getElem _)⟩
   have hrow := VR.row (φ := phiW W) (k := b) (o := o) (c' := cap) (c := c) (es := x0 :: es) (s := s) (phiW_at hb) hc hs (fun _ => ?_) (by omega) (fun i j x v v' hi hj hv => ?_)
   . subst hlen; exact hrow
   . have hx1 : (x0 :: es)[es.length]? = some ((x0 :: es)[es.length]'(by simp)) := List.getElem?_eq_getElem _
     have hl := hs _ (List.mem_of_getElem? hx1)
     obtain ⟨v', h1, _⟩ := key es.length (s - 1) _ _ hx1 (List.getElem?_eq_getElem (by omega))
     have := (Array.getElem?_eq_some_iff.1 h1).1
     have e5 : (x0 :: es).length * s = es.length * s + s := by rw [List.length_cons, Nat.succ_mul]
     omega
   . obtain ⟨v'', h1, h2⟩ := key i j x v hi hj
     rw [h1] at hv
     cases hv
     exact h2
end
end Go.Ev
/- Bytes: texts, rows of bytes, arrays, numbers of other kinds. -/
namespace Go.Ev
noncomputable section
set_option linter.unusedVariables false
set_option linter.unusedSimpArgs false
variable {P : Program} {pl : Pol} {X : Ext} {H H0 H1 : T OB} {nx nx0 nx1 : Nat} {v u : Value} {R : Value -> T OB -> Nat -> Prop}
abbrev txt (l : List UInt8) : Value := Value.string ⟨⟨l⟩⟩
def bys (l : List UInt8) : List Value := l.map fun x => .int .u8 (.ofNat x.toNat)
@[simp] theorem bys_length (l : List UInt8) : (bys l).length = l.length := by simp [bys]
theorem bys_append (a b : List UInt8) : bys (a ++ b) = bys a ++ bys b := by simp [bys]
theorem bys_all (l : List UInt8) : (bys l).all oneCell = true := by
 induction l with
 | nil => rfl
 | cons a l ih => simp [bys, oneCell]
theorem strOf_bys (l : List UInt8) : strOf (bys l) = some l := by
 induction l with
 | nil => rfl
 | cons a l ih =>
   show (match strOf (bys l) with | some r => some (a.toNat.toUInt8 :: r) | none => none) = _
   rw [ih]
   simp
theorem txt_append (a b : List UInt8) : (⟨⟨a⟩⟩ : ByteArray) ++ ⟨⟨b⟩⟩ = ⟨⟨a ++ b⟩⟩ := by
 apply ByteArray.ext
 apply Array.ext'
 simp
theorem txt_size (a : List UInt8) : (⟨⟨a⟩⟩ : ByteArray).size = a.length := rfl
theorem rdAdd_txt (t : TypeId) (q : Bool) (a b : List UInt8) (h : a.length + b.length <= 9223372036854775807) : rdBin P H .add t q (some (txt a)) (some (txt b)) = some (txt (a ++ b)) := by
 rw [rdBin_sadd t q _ _ (by rw [txt_size, txt_size]; exact h), txt_append]
theorem fV_run {s : Sem Value} {w : Value} (h : pureRun P s = some w) (hw : flat w = true) : fV P s = some w := by
 show nextV (pureRun P (vS s)) = _
 have e : pureRun P (vS s) = some (Next.value w) := by
  show pureRun P (s >>= fun v => pure (Next.value v)) = _
  rw [pureRun_bind, h]
  rfl
 rw [e]
 show (valF w fun v => bif flat v then some v else none) = _
 rw [valF_eq, hw]; rfl
theorem rdConv_sl {s d : TypeId} {b off n c : Nat} {l : List Value} {r : List UInt8} {e : TypeId} (hq : isBytesT P s d = true) (h : IsB H b l e) (hn : off + n <= l.length) (hr : (l.drop off).take n = bys r) :
 rdConv P H s d (some (.slice (some ⟨b, off, none⟩) n c)) = some (txt r) := by
 obtain ⟨tr, h1, h2⟩ := h
 show (bif isBytesT P s d then rowK (H.get (bits b)) (fun m tr => bif Nat.ble (off + n) m then optK (toL tr n off) (fun l => optK (strOf l) (fun r => some (Value.string ⟨⟨r⟩⟩)) none) none else none) none else none) = _
 rw [hq, cond_true, h1]
 show (bif Nat.ble (off + n) l.length then optK (toL tr n off) (fun l => optK (strOf l) (fun r => some (Value.string ⟨⟨r⟩⟩)) none) none else none) = _
 rw [Nat.ble_eq_true_of_le hn, cond_true, toL_of h2 n off hn, optK_some, hr, strOf_bys]
 rfl
theorem rdConv_nil {s d e : TypeId} (hs : P.underlying s = some (.slice e)) (he : P.underlying e = some (.int .u8)) (hd : P.underlying d = some .string) : rdConv P H s d (some (.slice none 0 0)) = some (txt []) := by
 show convV P s d (.slice none 0 0) = _
 show (fV P (convert s d (.slice none 0 0))) = _
 have e1 : pureRun P (convert s d (.slice none 0 0)) = some (txt []) := by
  unfold convert
  simp only [pureRun_bind, pureRun_und hs, pureRun_und hd, Option.bind_some]
  simp only [pureRun_bind, pureRun_und he, Option.bind_some]
  simp [Conv.bytesToString]
  rfl
 exact fV_run e1 rfl
theorem rdConv_int {s d : TypeId} {k k' : IntKind} {n : Int} {ds : TypeDesc} (hs : P.underlying s = some ds) (hd : P.underlying d = some (.int k)) : rdConv P H s d (some (.int k' n)) = some (.int k (k.wrap n)) := by
 show convV P s d (.int k' n) = _
 show (fV P (convert s d (.int k' n))) = _
 have e1 : pureRun P (convert s d (.int k' n)) = some (.int k (k.wrap n)) := by
  unfold convert
  simp only [pureRun_bind, pureRun_und hs, pureRun_und hd, Option.bind_some]
  rfl
 exact fV_run e1 rfl
theorem unV_neg (k : IntKind) (n : Int) : unV P .neg (some (.int k n)) = some (.int k (k.wrap (0 - n))) := by
 show fV P (Op.unary .neg (.int k n)) = _
 have e : Op.unary .neg (.int k n) = pure (.int k (k.wrap (0 - n))) := rfl
 rw [e]; exact fV_pure rfl
theorem rdIndex_arr {t e : TypeId} {s b off len i : Nat} (hu : P.underlying t = some (.array len e)) (hs : szOf P e = some s) (hi : i < len) (k : IntKind) : rdIndexAddr P t (some (.pointer (some ⟨b, off, none⟩))) (some (.int k (i : Int))) = some (.pointer (some ⟨b, off + i * s, none⟩)) := by
 show intNK (i : Int) (rdIA P t (some (.pointer (some ⟨b, off, none⟩)))) none = _
 rw [intNK_ofNat]
 show arrTK P t (fun len s => bif Nat.blt i len then natF (Nat.add off (Nat.mul i s)) (fun o => some (Value.pointer (some ⟨b, o, none⟩))) else none) none = _
 unfold arrTK
 rw [hu]
 simp only
 rw [hs, optK_some, show Nat.blt i len = true from Nat.ble_eq_true_of_le hi, cond_true, natF_eq]
 rfl
theorem rdSlice_arr {t e : TypeId} {s b off len i : Nat} (hu : P.underlying t = some (.array len e)) (hs : szOf P e = some s) (hi : i < len) (hl : len < 9223372036854775808) (k : IntKind) :
 rdSlice P H t (some (.pointer (some ⟨b, off, none⟩))) (some (some (.int k (i : Int)))) (some none) (some none) = some (.slice (some ⟨b, off + i * s, none⟩) (len - i) (len - i)) := by
 show arrTK P t (fun n s => optK (some i) (fun l => optK (some n) (fun h => sliceN b off n s l h) none) none) none = _
 unfold arrTK
 rw [hu]
 simp only
 rw [hs, optK_some]
 show sliceN b off len s i len = _
 unfold sliceN
 rw [Nat.ble_eq_true_of_le (Nat.le_of_lt hi), Nat.ble_eq_true_of_le (Nat.le_refl _), show Nat.blt len unk = true from Nat.ble_eq_true_of_le (by unfold unk; omega)]
 simp only [Bool.and_self, cond_true, natF_eq]
 rw [show Nat.beq len i = false from by rw [Bool.eq_false_iff]; intro h; rw [Nat.beq_eq] at h; omega]
 rfl
theorem efAppT_eq {t u e : TypeId} {b : ByteArray} {base : Option Addr} {sl sc : Nat} (hu : P.underlying t = some (.slice e)) (hs : szOf P e = some 1) (hq : isStrT P u = true) (hsm : apSmall P e 1 (sl + b.size) = true) :
 efAppS P H nx [t, u] (some [.slice base sl sc, .string b]) = apGo P H nx e 1 base sl sc b.size (bys b.data.toList) := by
 show (bif isStrT P u then sliceTK P t (fun e s => bif apSmall P e s (sl + b.size) && Nat.beq s 1 then apGo P H nx e s base sl sc b.size (b.data.toList.map fun x => .int .u8 (.ofNat x.toNat)) else .bad) .bad else .bad) = _
 rw [hq, cond_true]
 unfold sliceTK
 rw [hu]
 simp only
 rw [hs, optK_some, hsm]
 rfl
theorem Wq.appT0 {t u e : TypeId} {r : List UInt8} {k : Value -> T OB -> Nat -> Q} (hu : P.underlying t = some (.slice e)) (hs : szOf P e = some 1) (hq : isStrT P u = true) (hsm : apSmall P e 1 r.length = true) (h : Ag nx0 H0 nx H)
 (h0 : r = [] -> WqR P pl X (k (.slice none 0 0) H nx) nx0 H0 R)
 (hk : ∀ H', r ≠ [] -> IsB H' nx (bys r) e -> (∀ b l e, b < nx -> IsB H b l e -> IsB H' b l e) -> Ag nx0 H0 (nx + 1) H' -> WqR P pl X (k (.slice (some ⟨nx, 0, none⟩) r.length unk) H' (nx + 1)) nx0 H0 R) :
 WqR P pl X (effQ (efAppS P H nx [t, u] (some [.slice none 0 0, txt r])) k) nx0 H0 R := by
 rw [efAppT_eq hu hs hq (by rw [Nat.zero_add]; exact hsm)]
 show WqR P pl X (effQ (bif Nat.beq 0 0 && Nat.beq 0 0 then (bif Nat.beq r.length 0 then .val (.slice none 0 0) H nx else apNew H nx e r.length (bys r)) else .bad) k) nx0 H0 R
 cases r with
 | nil => exact h0 rfl
 | cons x r =>
   show WqR P pl X (effQ (apNew H nx e (x :: r).length (bys (x :: r))) k) nx0 H0 R
   rw [newK_mk]
   exact Wq.new (q := fun H n => k (.slice (some ⟨nx, 0, none⟩) (x :: r).length unk) H n) h fun H' a b c => hk H' (by simp) a b c
theorem Wq.appT {t u e e' : TypeId} {b n : Nat} {l : List Value} {r : List UInt8} {k : Value -> T OB -> Nat -> Q} (hu : P.underlying t = some (.slice e)) (hs : szOf P e = some 1) (hq : isStrT P u = true) (hb : IsB H b l e') (hs' : szOf P e' = some 1) (hl : l.length = n)
 (hsm : apSmall P e 1 (n + r.length) = true) (h : Ag nx0 H0 nx H) (hbn : nx0 <= b) (hbx : b < nx)
 (hk : ∀ H', IsB H' nx (l ++ bys r) e -> (∀ c l e, c ≠ b -> c < nx -> IsB H c l e -> IsB H' c l e) -> Ag nx0 H0 (nx + 1) H' -> WqR P pl X (k (.slice (some ⟨nx, 0, none⟩) (n + r.length) unk) H' (nx + 1)) nx0 H0 R) :
 WqR P pl X (effQ (efAppS P H nx [t, u] (some [.slice (some ⟨b, 0, none⟩) n unk, txt r])) k) nx0 H0 R := by
 rw [efAppT_eq hu hs hq hsm]
 obtain ⟨tr, h1, h2⟩ := hb
 have e1 : apGo P H nx e 1 (some ⟨b, 0, none⟩) n unk r.length (bys r) = apNew (Ev.set H (bits b) (some .dead)) nx e (n + r.length) (l ++ bys r) := by
  show apAt P H nx e 1 b 0 n unk r.length (bys r) = _
  unfold apAt
  rw [h1]
  have eu : Nat.beq unk unk = true := Nat.beq_refl _
  simp only [cellsK, eu, cond_true]
  unfold apU esIs
  rw [h1]
  show (bif Nat.beq 0 0 && Nat.ble (n * 1) l.length && optK (szOf P e') (fun z => Nat.beq z 1) false && (bys r).all oneCell then _ else _) = _
  rw [hs', optK_some, Nat.beq_refl, hl, Nat.ble_eq_true_of_le (by omega), bys_all]
  have : toL tr (n * 1) 0 = some l := by rw [Nat.mul_one, <- hl, toL_of h2 _ _ (by omega)]; simp
  rw [this, Nat.beq_refl]
  show setK (bits b) H (some .dead) (fun H => apNew H nx e (n + r.length) (l ++ bys r)) = _
  rw [setK_set]
 show WqR P pl X (effQ (apGo P H nx e 1 (some ⟨b, 0, none⟩) n unk r.length (bys r)) k) nx0 H0 R
 rw [e1, newK_mk]
 exact Wq.new (q := fun H n' => k (.slice (some ⟨nx, 0, none⟩) (n + r.length) unk) H n') (h.set hbn _) fun H' ha hb hc => hk H' ha (fun c l e hcb hcn hi => hb c l e hcn (hi.other hcb _)) hc
end
end Go.Ev
/- Rows of bytes that grow. -/
namespace Go.Ev
noncomputable section
set_option linter.unusedVariables false
variable {P : Program} {pl : Pol} {X : Ext} {H H0 H1 : T OB} {nx nx0 nx1 : Nat} {v u : Value} {R : Value -> T OB -> Nat -> Prop}
theorem rdIndex_txt {t : TypeId} (hu : P.underlying t = some .string) {l : List UInt8} {i : Nat} {c : UInt8} (h : l[i]? = some c) (k : IntKind) : rdIndex P t (some (txt l)) (some (.int k (i : Int))) = some (.int .u8 (c.toNat : Int)) := by
 show indexV P t (txt l) (.int k i) = _
 show fV P (Instr.index t (txt l) (.int k i)) = _
 have hi : i < l.length := (List.getElem?_eq_some_iff.1 h).1
 have e0 : (⟨⟨l⟩⟩ : ByteArray)[i]? = some c := by
  rw [ByteArray.getElem?_lt' _ _ hi]
  exact (List.getElem?_eq_getElem hi).symm.trans h
 have e1 : pureRun P (Instr.index t (txt l) (.int k i)) = some (.int .u8 (c.toNat : Int)) := by
  unfold Instr.index
  simp only [asIntOf, pureRun_bind, pureRun_und hu, Option.bind_some]
  have h0 : (0 : Int) <= (i : Int) := by omega
  have : pureRun P (pure (k, (i : Int)) : Sem (IntKind × Int)) = some (k, (i : Int)) := rfl
  simp only [this, Option.bind_some, h0, if_true, Int.toNat_natCast, e0]
  rfl
 exact fV_run e1 rfl
theorem rdBin_shr (t : TypeId) (q : Bool) (k k' : IntKind) (a : Int) (n : Nat) (hn : n <= k.bits) : rdBin P H .shr t q (some (.int k a)) (some (.int k' (n : Int))) = some (.int k (a.fdiv (2 ^ n))) := by
 rw [rdBin_flat rfl rfl rfl rfl]
 have e0 : binV P .shr t (.int k a) (.int k' (n : Int)) = fV P (binOp .shr t (.int k a) (.int k' (n : Int))) := rfl
 have e : binOp .shr t (.int k a) (.int k' (n : Int)) = pure (.int k (a.fdiv (2 ^ n))) := by
  show Op.shift .shr k a k' (n : Int) = _
  unfold Op.shift
  rw [if_neg (by omega)]
  simp only [Int.toNat_natCast, Nat.min_eq_left hn]
 rw [e0, e]; exact fV_pure rfl
theorem rdBin_and (t : TypeId) (q : Bool) (k : IntKind) (a b : Int) : rdBin P H .and t q (some (.int k a)) (some (.int k b)) = some (.int k (k.wrap ((BitVec.ofInt k.bits a &&& BitVec.ofInt k.bits b).toNat : Int))) := by
 rw [rdBin_int]
 have e : binOp .and t (.int k a) (.int k b) = pure (.int k (k.wrap ((BitVec.ofInt k.bits a &&& BitVec.ofInt k.bits b).toNat : Int))) := by simp [binOp, Op.intBits]
 rw [e]; exact fV_pure rfl
def BS (e : TypeId) (nx0 : Nat) (H : T OB) (nx : Nat) (r : List UInt8) (sl : Value) : Prop :=
 (r = [] /\ sl = .slice none 0 0) \/ ∃ b c, nx0 <= b /\ b < nx /\ IsB H b (bys r) e /\ (c = unk \/ c = r.length) /\ sl = .slice (some ⟨b, 0, none⟩) r.length c
theorem BS.nil (e : TypeId) (nx0 : Nat) (H : T OB) (nx : Nat) : BS e nx0 H nx [] (.slice none 0 0) := .inl ⟨rfl, rfl⟩
theorem Wq.addB {t e : TypeId} {n : Nat} {r x : List UInt8} {sl : Value} {vs : List (Nat × Value)} {z : List Value} {k : Value -> T OB -> Nat -> Q} (hu : P.underlying t = some (.slice e)) (hs : szOf P e = some 1) (hz : zeroC P e = some z) (hsl : BS e nx0 H nx r sl) (hn : x.length = n)
 (hg : (Nat.ble (n * 1) 16777216 && Nat.blt 0 (n * 1) && Nat.blt 0 z.length) = true) (hf : Instr.fill (fun i => some (i * 1, 1)) (zeroRow z (n * 1)) vs = some ⟨bys x⟩) (hsm : ∀ m, m <= r.length + x.length -> apSmall P e 1 m = true) (h : Ag nx0 H0 nx H)
 (hk : ∀ H' sl' nx', BS e nx0 H' nx' (r ++ x) sl' -> Ag nx0 H0 nx' H' -> nx <= nx' -> WqR P pl X (k sl' H' nx') nx0 H0 R) :
 WqR P pl X (effQ (efBuildSlice P H nx t n (some vs)) fun v H nx => effQ (efAppS P H nx [t, t] (some [sl, v])) k) nx0 H0 R := by
 have hn0 : 0 < x.length := by
  rw [hn]
  simp only [Bool.and_eq_true] at hg
  have := Nat.lt_of_lt_of_le (Nat.zero_lt_one) (Nat.le_of_ble_eq_true hg.1.2)
  omega
 refine Wq.row hu hs hz hg hf h fun H1 hb1 keep hA1 => ?_
 have hx1 : xsOf H1 1 (.slice (some ⟨nx, 0, none⟩) n n) = some (n, bys x) := xsOf_b hb1 (by simp; exact hn)
 rcases hsl with ⟨rfl, rfl⟩ | ⟨b, c, hb0, hbx, hb, hc, rfl⟩
 . refine Wq.app0 hu hs rfl hx1 (hsm _ (by simp; omega)) hA1 (fun h0 => by omega) fun H2 _ hb2 _ hA2 => ?_
   refine hk _ _ _ ?_ hA2 (by omega)
   exact .inr ⟨nx + 1, unk, by have := h.1; omega, by omega, by simpa using hb2, .inl rfl, by rw [List.nil_append, hn]⟩
 . have hb' := keep _ _ _ hbx hb
   rcases hc with rfl | rfl
   . refine Wq.app hu hs hb' hs (by simp) rfl hx1 (bys_all x) (hsm _ (by omega)) hA1 hb0 (by omega) fun H2 hb2 _ hA2 => ?_
     refine hk _ _ _ ?_ hA2 (by omega)
     exact .inr ⟨nx + 1, unk, by have := h.1; omega, by omega, by rw [bys_append]; exact hb2, .inl rfl, by rw [List.length_append, hn]⟩
   . rw [efAppS_eq rfl]
     unfold sliceTK
     rw [hu]
     simp only [hs, optK_some, hx1, hsm (r.length + n) (by omega), cond_true]
     obtain ⟨tr, h1, h2⟩ := hb'
     by_cases hr : r.length = unk
     . have hh := hsm r.length (by omega)
       exact absurd hh (by
        unfold apSmall
        intro q
        split at q
        . simp only [Bool.and_eq_true] at q
          have := Nat.le_of_ble_eq_true q.1.2
          unfold unk at hr
          omega
        . cases q)
     . have e1 : apGo P H1 (nx + 1) e 1 (some ⟨b, 0, none⟩) r.length r.length n (bys x) = apNew H1 (nx + 1) e (r.length + n) (bys r ++ bys x) := by
        show apAt P H1 (nx + 1) e 1 b 0 r.length r.length n (bys x) = _
        unfold apAt
        rw [h1]
        have eu : Nat.beq r.length unk = false := by
         rw [Bool.eq_false_iff]; intro q; rw [Nat.beq_eq] at q; exact hr q
        have el : Nat.ble (r.length + n) r.length = false := by
         rw [Bool.eq_false_iff]; intro q; have := Nat.le_of_ble_eq_true q; omega
        simp only [cellsK, eu, cond_false, el]
        unfold apOut
        rw [show Nat.ble (0 + r.length * 1) (bys r).length = true from Nat.ble_eq_true_of_le (by simp), show Nat.blt 0 n = true from Nat.ble_eq_true_of_le (by omega)]
        have : toL tr (r.length * 1) 0 = some (bys r) := by rw [toL_of h2 _ _ (by simp)]; simp [List.take_of_length_le]
        simp only [Bool.and_self, cond_true, this, optK_some]
       rw [e1, newK_mk]
       refine Wq.new (q := fun H n' => k (.slice (some ⟨nx + 1, 0, none⟩) (r.length + n) unk) H n') hA1 fun H2 hb2 _ hA2 => ?_
       refine hk _ _ _ ?_ hA2 (by omega)
       exact .inr ⟨nx + 1, unk, by have := h.1; omega, by omega, by rw [bys_append]; exact hb2, .inl rfl, by rw [List.length_append, hn]⟩
theorem rdConv_BS {s d e : TypeId} {r : List UInt8} {sl : Value} (hs : P.underlying s = some (.slice e)) (he : P.underlying e = some (.int .u8)) (hd : P.underlying d = some .string) (hq : isBytesT P s d = true) {e' : TypeId} (h : BS e' nx0 H nx r sl) : rdConv P H s d (some sl) = some (txt r) := by
 rcases h with ⟨rfl, rfl⟩ | ⟨b, c, hb0, hbx, hb, hc, rfl⟩
 . exact rdConv_nil hs he hd
 . exact rdConv_sl hq hb (by simp) (by rw [List.drop_zero, List.take_of_length_le (by simp)])
end
end Go.Ev
/- Tables that the row lists. -/
namespace Go.Ev
noncomputable section
set_option linter.unusedVariables false
set_option linter.unusedSimpArgs false
open Go.RowKit (Below)
def memK {β : Type} (l : List (Nat × List Value)) : T OB -> (T OB -> β) -> β :=
 @List.rec (Nat × List Value) (fun _ => T OB -> (T OB -> β) -> β) (fun H k => k H)
  (fun x _ ih H k => fromLK x.2 0 .leaf fun t => natF x.2.length fun n => setK (bits x.1) H (some (.ro n t)) fun H => ih H k) l
def memOf : List (Nat × List Value) -> T OB -> T OB
 | [], H => H
 | x :: l, H => memOf l (set H (bits x.1) (some (.ro x.2.length (fromL x.2 0 .leaf))))
theorem memK_eq {β : Type} : ∀ (l : List (Nat × List Value)) (H : T OB) (k : T OB -> β), memK l H k = k (memOf l H)
 | [], H, k => rfl
 | x :: l, H, k => by
   show (fromLK x.2 0 .leaf fun t => natF x.2.length fun n => setK (bits x.1) H (some (.ro n t)) fun H => memK l H k) = _
   rw [fromLK_fromL, natF_eq, setK_set]
   exact memK_eq l _ k
theorem hp_memOf : ∀ (l : List (Nat × List Value)) (H : T OB) (k : Nat) (ob : OB), hp (memOf l H) k = some ob -> (∃ x ∈ l, x.1 = k /\ ob = .ro x.2.length (fromL x.2 0 .leaf)) \/ hp H k = some ob
 | [], H, k, ob, h => .inr h
 | x :: l, H, k, ob, h => by
   rcases hp_memOf l _ k ob h with ⟨y, hy, h1, h2⟩ | h
   . exact .inl ⟨y, by simp [hy], h1, h2⟩
   . rw [hp_set] at h
     by_cases hk : k = x.1
     . subst hk
       rw [upd_same] at h
       cases h
       exact .inl ⟨x, by simp, rfl, rfl⟩
     . rw [upd_other _ hk] at h
       exact .inr h
variable {P : Program} {W : World} {φ : Phi}
def TabsAt (w : World) (n : Nat) (tabs : List (Nat × List Value)) : Prop := ∀ x ∈ tabs, x.1 < n /\ (∀ y ∈ x.2, flat y = true) /\ ∃ c el fz, w.heap[x.1]? = some (.cells c el fz) /\ c.toList = x.2
theorem TabsAt.below {n : Nat} {w : World} {tabs : List (Nat × List Value)} (h : TabsAt W n tabs) (hn : n <= W.heap.size) (hb : Below W.heap.size W w) : TabsAt w n tabs := fun x hx => by
 obtain ⟨h0, h1, c, el, fz, h2, h3⟩ := h x hx
 exact ⟨h0, h1, c, el, fz, by rw [hb.block _ (by omega)]; exact h2, h3⟩
def strData (l : List ByteArray) : DataW Unit := .agg (l.map fun z => .lit (.string z.data.toList))
theorem cells_of_strs {P : Program} {w : World} {base : Nat} {sp : Nat -> Bool} {held : Bool} {fuel : Nat} {t e : TypeId} {n : Nat} {cs : List Value} {l : List ByteArray} {p : List MemPlace}
 (ht : P.underlying t = some (.array n e)) (he : P.underlying e = some .string) (hce : P.cellsOf e = 1) (hct : P.cellsOf t = n)
 (h : DataW.trod (fun _ => ()) P w base sp held fuel t cs = some (strData l, p)) : cs = l.map Value.string := by
 cases fuel with
 | zero => simp [DataW.trod] at h
 | succ fuel =>
   simp only [DataW.trod, ht, hce, hct, Nat.mul_one] at h
   split at h
   . rename_i hl
     obtain ⟨xs, hm, hx⟩ := Option.map_eq_some_iff.1 h
     have hxs : xs.map (·.1) = l.map fun z => (DataW.lit (.string z.data.toList) : DataW Unit) := by
      have := congrArg Prod.fst hx
      simpa [strData] using this
     have hxl : xs.length = n := by simpa using Lib.mapM_length hm
     have hzl : l.length = n := by
      have := congrArg List.length hxs
      simp at this
      omega
     apply List.ext_getElem?
     intro i
     by_cases hi : i < n
     . obtain ⟨b, hb, hf⟩ := Lib.mapM_at hm i i (by simp [hi])
       obtain ⟨z, hc, rfl, _⟩ := DataW.trod_string he hf
       have h1 : cs[i]? = some (.string z) := by
        have := congrArg (·[0]?) hc
        simpa [List.getElem?_take, List.getElem?_drop] using this
       have h2 : (xs.map (·.1))[i]? = some (DataW.lit (.string z.data.toList) : DataW Unit) := by simp [hb]
       rw [hxs] at h2
       simp only [List.getElem?_map, Option.map_eq_some_iff, DataW.lit.injEq, Lit.string.injEq] at h2
       obtain ⟨z', hz', hz2⟩ := h2
       have : z' = z := by
        cases z; cases z'
        simp at hz2
        simp [hz2]
       simp [h1, hz', this]
     . rw [List.getElem?_eq_none (by omega), List.getElem?_eq_none (by simp; omega)]
   . cases h
theorem tab_of_head {P : Program} {W : World} {name : String} {l : List ByteArray} {rest : List (String × DataW Unit)} {g : Nat} {t e : TypeId} {n : Nat}
 (hg : P.globalNamed name = some g) (hty : (P.globals[g]?).map (·.type) = some t) (ht : P.underlying t = some (.array n e)) (he : P.underlying e = some .string) (hce : P.cellsOf e = 1) (hct : P.cellsOf t = n)
 (h : laidMet P ((name, strData l) :: rest) W) : ∃ c el fz, W.heap[g]? = some (.cells c el fz) /\ c.toList = l.map Value.string := by
 obtain ⟨ps, ⟨g', t', cs, fuel, p, q, hg', ht', hvar, hd, _, _⟩, _⟩ := h
 obtain rfl := Option.some.inj (hg.symm.trans hg')
 obtain rfl := Option.some.inj (hty.symm.trans ht')
 have hcs := cells_of_strs ht he hce hct hd
 unfold World.var? at hvar
 rw [hg] at hvar
 simp only [Option.bind_some] at hvar
 split at hvar
 . rename_i c el fz hb
   cases hvar
   exact ⟨_, _, _, hb, hcs⟩
 . cases hvar
end
end Go.Ev
/- Maps, and tables that are read. -/
namespace Go.Ev
noncomputable section
set_option linter.unusedVariables false
set_option linter.unusedSimpArgs false
variable {P : Program} {pl : Pol} {X : Ext} {H H0 H1 : T OB} {nx nx0 nx1 : Nat} {v u : Value} {R : Value -> T OB -> Nat -> Prop}
def IsM (H : T OB) (b : Nat) (es : List MapEntry) (c : Nat) : Prop := H.get (bits b) = some (.map es c)
theorem IsM.other {b c : Nat} {es : List MapEntry} {n : Nat} (h : IsM H b es n) (hc : b ≠ c) (x : Option OB) : IsM (Ev.set H (bits c) x) b es n := by
 unfold IsM at h ⊢
 rw [get_at, if_neg hc]; exact h
theorem Wq.mkmap {k : Value -> T OB -> Nat -> Q} (h : Ag nx0 H0 nx H)
 (hk : ∀ H', IsM H' nx [] 0 -> (∀ b l e, b < nx -> IsB H b l e -> IsB H' b l e) -> (∀ b es c, b < nx -> IsM H b es c -> IsM H' b es c) -> Ag nx0 H0 (nx + 1) H' -> WqR P pl X (k (.map (some nx)) H' (nx + 1)) nx0 H0 R) : WqR P pl X (effQ (efMakeMap H nx) k) nx0 H0 R := by
 have e1 : effQ (efMakeMap H nx) k = k (.map (some nx)) (Ev.set H (bits nx) (some (.map [] 0))) (nx + 1) := by
  unfold efMakeMap
  rw [setK_set, natF_eq]
  rfl
 rw [e1]
 exact hk _ (by unfold IsM; rw [get_at, if_pos rfl]) (fun b l e hb h => h.other (by omega) _) (fun b es c hb h => h.other (by omega) _) (h.succ.set h.1 _)
theorem Wq.upd {t kt et : TypeId} {d : TypeDesc} {b : Nat} {es : List MapEntry} {c : Nat} {kv x : Value} {k : Value -> T OB -> Nat -> Q} (hu : P.underlying t = some (.map kt et)) (hd : P.underlying kt = some d) (hkk : keyKind d = true) (hb : IsM H b es c) (hf : Instr.findNow d kv es 0 = some none) (h : Ag nx0 H0 nx H) (hbn : nx0 <= b)
 (hk : ∀ H', IsM H' b (es ++ [⟨kv, x, c⟩]) (c + 1) -> (∀ c l e, c ≠ b -> IsB H c l e -> IsB H' c l e) -> (∀ c es n, c ≠ b -> IsM H c es n -> IsM H' c es n) -> Ag nx0 H0 nx H' -> WqR P pl X (k undef H' nx) nx0 H0 R) :
 WqR P pl X (effQ (efMapUpdate P H nx t (some (.map (some b))) (some kv) (some x)) k) nx0 H0 R := by
 have e1 : efMapUpdate P H nx t (some (.map (some b))) (some kv) (some x) = .val undef (Ev.set H (bits b) (some (.map (es ++ [⟨kv, x, c⟩]) (c + 1)))) nx := by
  unfold efMapUpdate mapTK
  rw [hu]
  simp only
  rw [hd, optK_some, hkk, cond_true]
  show mapK (H.get (bits b)) (fun es c => updM H nx b es c kv x (Instr.findNow d kv es 0)) .bad = _
  unfold IsM at hb
  rw [hb]
  show updM H nx b es c kv x (Instr.findNow d kv es 0) = _
  rw [hf]
  show Ev.natF (Nat.succ c) (fun c' => setK (bits b) H (some (.map (es ++ [⟨kv, x, c⟩]) c')) fun H => Eff.val undef H nx) = _
  rw [natF_eq, setK_set]
 rw [e1]
 exact hk _ (by unfold IsM; rw [get_at, if_pos rfl]) (fun c l e hc h => h.other hc _) (fun c es n hc h => h.other hc _) (h.set hbn _)
theorem rdLookup_of {t kt et : TypeId} {d : TypeDesc} {b : Nat} {es : List MapEntry} {c : Nat} {kv : Value} {ok : Bool} (hu : P.underlying t = some (.map kt et)) (hd : P.underlying kt = some d) (hkk : keyKind d = true) (hb : IsM H b es c) :
 rdLookup P H t (some (.map (some b))) (some kv) ok = lookV P et ok (Instr.findNow d kv es 0) := by
 unfold rdLookup mapTK
 rw [hu]
 simp only
 rw [hd, optK_some, hkk, cond_true]
 unfold IsM at hb
 unfold esOf
 simp only [hb, optK_some]
def IsRo (H : T OB) (b : Nat) (l : List Value) : Prop := ∃ tr, H.get (bits b) = some (.ro l.length tr) /\ ∀ i, i < l.length -> tr.get (bits i) = l[i]?
theorem IsRo.ag {b : Nat} {l : List Value} (h : IsRo H b l) (hA : Ag nx H nx1 H1) (hb : b < nx) : IsRo H1 b l := by
 obtain ⟨tr, h1, h2⟩ := h
 exact ⟨tr, (show hp H1 b = _ from (hA.2 b hb).trans h1), h2⟩
theorem rdLoad_ro {b off : Nat} {l : List Value} {t : TypeId} {u : Value} (h : IsRo H b l) (ha : aggQ P t = some false) (hu : l[off]? = some u) : rdLoad P H t (some (.pointer (some ⟨b, off, none⟩))) = some u := by
 obtain ⟨tr, h1, h2⟩ := h
 have hlt := (List.getElem?_eq_some_iff.1 hu).1
 show loadO P H t b off = _
 unfold loadO
 rw [h1]
 show loadB P l.length tr t off = _
 unfold loadB
 rw [ha, optK_some]
 show load1 l.length tr off = _
 unfold load1
 have e1 : Nat.blt off l.length = true := Nat.ble_eq_true_of_le hlt
 rw [e1, h2 off hlt, hu]
 rfl
theorem rdSlice_all {t e : TypeId} {s b off len : Nat} (hu : P.underlying t = some (.array len e)) (hs : szOf P e = some s) (h0 : 0 < len) (hl : len < 9223372036854775808) :
 rdSlice P H t (some (.pointer (some ⟨b, off, none⟩))) (some none) (some none) (some none) = some (.slice (some ⟨b, off, none⟩) len len) := by
 show arrTK P t (fun n s => optK (some 0) (fun l => optK (some n) (fun h => sliceN b off n s l h) none) none) none = _
 unfold arrTK
 rw [hu]
 simp only
 rw [hs, optK_some]
 show sliceN b off len s 0 len = _
 unfold sliceN
 rw [Nat.ble_eq_true_of_le (Nat.zero_le _), Nat.ble_eq_true_of_le (Nat.le_refl _), show Nat.blt len unk = true from Nat.ble_eq_true_of_le (by unfold unk; omega)]
 simp only [Bool.and_self, cond_true, natF_eq]
 rw [show Nat.beq len 0 = false from by rw [Bool.eq_false_iff]; intro h; rw [Nat.beq_eq] at h; omega]
 simp
end
end Go.Ev
/- What small functions answer. -/
namespace Go.Proofs.YthjhonhhbddhkaaGreatDoor
open Go.Ev Go.RowKit
noncomputable section
set_option linter.unusedVariables false
set_option linter.unusedSimpArgs false
variable {X : Ext}
abbrev i64 (n : Int) : Value := .int .i64 n
def ints (l : List Int) : Value := rowV 1 (l.map i64)
theorem wrap_succ {i : Nat} (h : i < 9223372036854775807) : IntKind.i64.wrap ((i : Int) + 1) = ((i + 1 : Nat) : Int) := by rw [wrap_id (by omega)]; omega
theorem Wq.each {nx0 : Nat} {H0 : T OB} {α σ : Type} (l : List α) (q : Nat -> σ -> T OB -> Nat -> Q) (R : List α -> σ -> Value) (hend : ∀ s H1 nx1, Ag nx0 H0 nx1 H1 -> Wq P pl X (q l.length s H1 nx1) nx0 H0 (R [] s))
 (hstep : ∀ i a t s H1 nx1, l[i]? = some a -> i < l.length -> l.drop (i + 1) = t -> Ag nx0 H0 nx1 H1 -> (∀ s H2 nx2, Ag nx0 H0 nx2 H2 -> Wq P pl X (q (i + 1) s H2 nx2) nx0 H0 (R t s)) -> Wq P pl X (q i s H1 nx1) nx0 H0 (R (a :: t) s))
 (s : σ) (H1 : T OB) (nx1 : Nat) (hA : Ag nx0 H0 nx1 H1) : Wq P pl X (q 0 s H1 nx1) nx0 H0 (R l s) := by
 have h := Wq.up l.length q (fun i s => R (l.drop i) s) (fun s H1 nx1 h => by simpa using hend s H1 nx1 h)
  (fun i s H1 nx1 hi ih hA => by
   have := hstep i l[i] _ s H1 nx1 (List.getElem?_eq_getElem hi) hi rfl hA ih
   simp only [List.drop_eq_getElem_cons hi]
   exact this) 0 s H1 nx1 (Nat.zero_le _) hA
 simpa using h
theorem not_lt_len {α : Type} (l : List α) : decide ((l.length : Int) < (l.length : Int)) = false := by simp
theorem is_lt_len {α : Type} {l : List α} {i : Nat} (h : i < l.length) : decide ((i : Int) < (l.length : Int)) = true := by simp [h]
abbrev w (n : Int) : Int := IntKind.i64.wrap n
theorem Wq.retE {nx0 : Nat} {H0 : T OB} {nx : Nat} {H : T OB} {u v : Value} (e : u = v) (h : Ag nx0 H0 nx H) : Wq P pl X (.ret ⟨.ret u, false, H, nx⟩) nx0 H0 v := by subst e; exact Wq.ret h
theorem Wq.jmp {nx0 : Nat} {H0 : T OB} {R : Value -> T OB -> Nat -> Prop} {q : Cfg} {t : Q} (e : evT P pl q = t) (hq : ∀ k, extQ X q k = k) (h : WqR P pl X t nx0 H0 R) : WqR P pl X (.jump q) nx0 H0 R := Wq.jump hq (by rw [e]; exact h)
theorem Wq.put {nx0 : Nat} {H0 : T OB} {nx : Nat} {H : T OB} {R : Value -> T OB -> Nat -> Prop} {b off : Nat} {l l' : List Value} {e t : TypeId} {u : Value} {k : Value -> T OB -> Nat -> Q} (hb : IsB H b l e) (hs : szOf P t = some 1) (hc : u.cells.toList = [u]) (ho : oneCell u = true)
 (hn : off < l.length) (hl : l.set off u = l') (h : Ag nx0 H0 nx H) (hbn : nx0 <= b) (hk : ∀ H', IsB H' b l' e -> (∀ c l e, c ≠ b -> IsB H c l e -> IsB H' c l e) -> Ag nx0 H0 nx H' -> WqR P pl X (k undef H' nx) nx0 H0 R) :
 WqR P pl X (effQ (efStore P H nx t (some (.pointer (some ⟨b, off, none⟩))) (some u)) k) nx0 H0 R := by
 refine Wq.store hb hs (by omega) (by rw [hc]; rfl) (by rw [hc]; simp [ho]) h hbn fun H' hb' hh hA' => hk H' ?_ hh hA'
 rw [hc] at hb'
 have e1 : overL l [u] off = l' := by
  rw [<- hl, List.set_eq_take_append_cons_drop, if_pos hn]
  unfold overL
  simp
 rw [e1] at hb'
 exact hb'
theorem Wq.callB {nx0 : Nat} {H0 : T OB} {nx : Nat} {H : T OB} {R : Value -> T OB -> Nat -> Prop} {f : FuncId} {args : List Value} {u : Value} {k p : Value -> T OB -> Nat -> Q} (hp : Pure P pl X f args u) (h : Ag nx0 H0 nx H)
 (hk : ∀ H' nx', Ag nx0 H0 nx' H' -> nx <= nx' -> (∀ b l e, b < nx -> IsB H b l e -> IsB H' b l e) -> WqR P pl X (k u H' nx') nx0 H0 R) : WqR P pl X (callQ (.call f args false none H nx) k p) nx0 H0 R := by
 obtain ⟨H1, nx1, h1, h2⟩ := hp H nx
 obtain ⟨v, H2, nx2, h3, hR, h4⟩ := hk H1 nx1 (h.trans h1) h1.1 (fun b l e hb h => h.ag h1 hb)
 refine ⟨v, H2, nx2, h3, hR, ?_⟩
 show optK (F P pl X (.call f args false none H nx)) (fun r => (match r.o with | .ret v => k v r.H r.nx | .pan v => p v r.H r.nx : Q).run (F P pl X)) none = _
 rw [h2]
 exact h4
end
end Go.Proofs.YthjhonhhbddhkaaGreatDoor
/- Tokens that are right: the program's answer. -/
namespace Go.Proofs.YthjhonhhbddhkaaGreatDoor
open Go.Ev Go.RowKit
noncomputable section
set_option maxRecDepth 100000
set_option linter.unusedVariables false
set_option linter.unusedSimpArgs false
theorem und_9 : P.underlying 9 = some .string := by kernel_rfl
abbrev b8 (c : UInt8) : Value := .int .u8 (c.toNat : Int)
theorem drop_cons {α : Type} {l t : List α} {a : α} {i : Nat} (h : l.drop i = a :: t) : l[i]? = some a /\ i < l.length /\ l.drop (i + 1) = t := by
 have hi : i < l.length := by
  apply Classical.byContradiction; intro q
  rw [List.drop_of_length_le (by omega)] at h; cases h
 rw [List.drop_eq_getElem_cons hi] at h
 injection h with h1 h2
 exact ⟨by rw [List.getElem?_eq_getElem hi, h1], hi, h2⟩
theorem drop_nil {α : Type} {l : List α} {i : Nat} (h : l.drop i = []) (hi : i <= l.length) : i = l.length := by
 have := congrArg List.length h
 simp at this; omega
def isLow (c : UInt8) : Bool := decide (97 <= c.toNat) && decide (c.toNat <= 122)
def isHigh (c : UInt8) : Bool := decide (65 <= c.toNat) && decide (c.toNat <= 90)
def isDig (c : UInt8) : Bool := decide (48 <= c.toNat) && decide (c.toNat <= 57)
def inW (c : UInt8) : Bool := isLow c || (isHigh c || (isDig c || (decide (c.toNat = 95) || decide (c.toNat = 39))))
def keysL : List (List UInt8) := [[97, 110, 100], [97, 110, 100, 97, 108, 115, 111], [99, 97, 115, 101], [100, 97, 116, 97, 116, 121, 112, 101], [100, 105, 118], [101, 108, 115, 101], [101, 110, 100], [101, 120, 99, 101, 112, 116, 105, 111, 110], [102, 110], [102, 117, 110], [104, 97, 110, 100, 108, 101], [105, 102], [105, 110], [105, 116, 111, 115], [108, 101, 116], [109, 111, 100], [110, 111, 116], [111, 102], [111, 114, 100], [111, 114, 101, 108, 115, 101], [114, 97, 105, 115, 101], [114, 101, 102], [115, 105, 122, 101], [115, 116, 114], [116, 104, 101, 110], [118, 97, 108]]
def signsL : List (List UInt8) := [[45, 62], [61, 62], [58, 58], [58, 61], [60, 61], [62, 61], [60, 62], [61], [60], [62], [43], [45], [42], [94], [33], [126], [40], [41], [44], [59], [124], [95]]
def wordsL : List (List UInt8) := [[126], [33], [110, 111, 116], [114, 101, 102], [115, 105, 122, 101], [115, 116, 114], [111, 114, 100], [105, 116, 111, 115]]
def firstHigh : List UInt8 -> Bool
 | [] => false
 | c :: _ => isHigh c
def kindW (s : List UInt8) : Int := if (firstHigh s || (decide (s = [116, 114, 117, 101]) || (decide (s = [102, 97, 108, 115, 101]) || decide (s = [110, 105, 108])))) = true then 4 else if keysL.contains s = true then 6 else 3
def isWord : List UInt8 -> Bool
 | [] => false
 | c :: r => (isLow c || isHigh c) && r.all inW
def isVar : List UInt8 -> Bool
 | a :: b :: r => decide (a.toNat = 39) && (isLow b && r.all fun c => !decide (c.toNat = 39) && inW c)
 | _ => false
structure Tok where
 k : Int
 s : List UInt8
 n : Int
 at_ : Int
abbrev Tok.c (t : Tok) : List Value := [i64 t.k, txt t.s, i64 t.n, i64 t.at_]
abbrev Tok.v (t : Tok) : Value := .agg ⟨t.c⟩
def tokOk (t : Tok) : Bool :=
 if t.k = 0 then decide (t.s = []) && decide (t.n = 0)
 else if t.k = 1 then decide (t.s = []) && (decide (0 <= t.n) && decide (t.n <= 4611686018427387903))
 else if t.k = 2 then decide (t.n = 0)
 else if t.k = 7 then decide (t.n = 0) && signsL.contains t.s
 else if t.k = 5 then isVar t.s && decide (t.n = 0)
 else if t.k = 3 \/ t.k = 4 \/ t.k = 6 then isWord t.s && (decide (t.n = 0) && decide (kindW t.s = t.k))
 else false
def levelsL : List (List (List UInt8)) := [[[111, 114, 101, 108, 115, 101]], [[97, 110, 100, 97, 108, 115, 111]], [[58, 61]], [[61], [60, 62], [60], [60, 61], [62], [62, 61]], [[58, 58]], [[43], [45], [94]], [[42], [100, 105, 118], [109, 111, 100]]]
abbrev lvl (l : List (List UInt8)) : Value := rowV 1 (l.map txt)
def tabs : List (Nat × List Value) := [(0, signsL.map txt), (1, keysL.map txt), (2, levelsL.map lvl), (3, wordsL.map txt)]
def TabIn (nx0 : Nat) (H0 : T OB) : Prop := 4 <= nx0 /\ ∀ x ∈ tabs, IsRo H0 x.1 x.2
theorem TabIn.ag {nx0 nx : Nat} {H0 H : T OB} (h : TabIn nx0 H0) (hA : Ag nx0 H0 nx H) : TabIn nx H := ⟨by have := h.1; have := hA.1; omega, fun x hx => (h.2 x hx).ag hA (by
 have h7 := h.1
 simp only [tabs, List.mem_cons, List.not_mem_nil, or_false] at hx
 rcases hx with rfl | rfl | rfl | rfl <;> (show _ < nx0; omega))⟩
theorem TabIn.signs {nx0 : Nat} {H0 : T OB} (h : TabIn nx0 H0) : IsRo H0 0 (signsL.map txt) := h.2 (0, signsL.map txt) (by simp [tabs])
theorem TabIn.keys {nx0 : Nat} {H0 : T OB} (h : TabIn nx0 H0) : IsRo H0 1 (keysL.map txt) := h.2 (1, keysL.map txt) (by simp [tabs])
theorem TabIn.levels {nx0 : Nat} {H0 : T OB} (h : TabIn nx0 H0) : IsRo H0 2 (levelsL.map lvl) := h.2 (2, levelsL.map lvl) (by simp [tabs])
theorem TabIn.words {nx0 : Nat} {H0 : T OB} (h : TabIn nx0 H0) : IsRo H0 3 (wordsL.map txt) := h.2 (3, wordsL.map txt) (by simp [tabs])
abbrev X0 : Ext := fun f args => bif Nat.beq f 11 then (match args with | [] => some (.bool true) | _ => none) else none
abbrev P0 (f : FuncId) (args : List Value) (v : Value) : Prop := Pure P pl X0 f args v
theorem pu_55 (c : UInt8) : P0 55 [b8 c] (.bool (isLow c)) := Pure.of rfl fun H nx => by
 rw [q55]
 simp only [stpF]
 unfold isLow
 refine Wq.ite (fun h => ?_) (fun h => ?_)
 . refine Wq.retE ?_ (.refl _ _)
   rw [show decide (97 <= c.toNat) = true from by simp; omega, Bool.true_and]
   congr 1; rw [decide_eq_decide]; omega
 . refine Wq.retE ?_ (.refl _ _)
   rw [show decide (97 <= c.toNat) = false from by simp; omega]; rfl
theorem pu_57 (c : UInt8) : P0 57 [b8 c] (.bool (isHigh c)) := Pure.of rfl fun H nx => by
 rw [q57]
 simp only [stpF]
 unfold isHigh
 refine Wq.ite (fun h => ?_) (fun h => ?_)
 . refine Wq.retE ?_ (.refl _ _)
   rw [show decide (65 <= c.toNat) = true from by simp; omega, Bool.true_and]
   congr 1; rw [decide_eq_decide]; omega
 . refine Wq.retE ?_ (.refl _ _)
   rw [show decide (65 <= c.toNat) = false from by simp; omega]; rfl
theorem pu_99 (c : UInt8) : P0 99 [b8 c] (.bool (isDig c)) := Pure.of rfl fun H nx => by
 rw [q99]
 simp only [stpF]
 unfold isDig
 refine Wq.ite (fun h => ?_) (fun h => ?_)
 . refine Wq.retE ?_ (.refl _ _)
   rw [show decide (48 <= c.toNat) = true from by simp; omega, Bool.true_and]
   congr 1; rw [decide_eq_decide]; omega
 . refine Wq.retE ?_ (.refl _ _)
   rw [show decide (48 <= c.toNat) = false from by simp; omega]; rfl
theorem pu_56 (c : UInt8) : P0 56 [b8 c] (.bool (inW c)) := Pure.of rfl fun H nx => by
 rw [q56]
 unfold inW
 refine Wq.call (pu_55 c) (.refl _ _) fun H1 nx1 hA1 => ?_
 simp only [stpF]
 cases isLow c with
 | true => exact Wq.ret hA1
 | false =>
   simp only [stpF, Bool.false_or]
   refine Wq.call (pu_57 c) hA1 fun H2 nx2 hA2 => ?_
   simp only [stpF]
   cases isHigh c with
   | true => exact Wq.ret hA2
   | false =>
     simp only [stpF, Bool.false_or]
     refine Wq.call (pu_99 c) hA2 fun H3 nx3 hA3 => ?_
     simp only [stpF]
     cases isDig c with
     | true => exact Wq.ret hA3
     | false =>
       simp only [stpF, Bool.false_or]
       refine Wq.ite (fun h => ?_) (fun h => ?_)
       . refine Wq.retE ?_ hA3
         rw [show decide (c.toNat = 95) = true from by simp; omega]; rfl
       . refine Wq.retE ?_ hA3
         rw [show decide (c.toNat = 95) = false from by simp; omega, Bool.false_or]
         congr 1; rw [decide_eq_decide]; omega
theorem w_54_7 {nx0 : Nat} {H0 : T OB} (b : Nat) (l : List (List UInt8)) (s : List UInt8) (hb : IsRo H0 b (l.map txt)) (hbx : b < nx0) (hl : l.length < 1000000) (cp : Nat) : ∀ (r : List (List UInt8)) (i : Nat) (H : T OB) (nx : Nat), l.drop i = r -> i <= l.length -> Ag nx0 H0 nx H ->
 Wq P pl X0 (.jump (l54_7 (txt s) (.slice (some ⟨b, 0, none⟩) l.length cp) (i64 (l.length : Int)) (i64 (i : Int)) H nx)) nx0 H0 (.bool (r.contains s)) := by
 intro r
 induction r with
 | nil =>
   intro i H nx hd hi hA
   have hil := drop_nil hd hi
   refine Wq.jmp (q54_7 ..) (fun _ => rfl) ?_
   simp only [stpF, hil, not_lt_len]
   exact Wq.ret hA
 | cons x r ih =>
   intro i H nx hd hi hA
   obtain ⟨hg, hlt, hd'⟩ := drop_cons hd
   have hg' : (l.map txt)[0 + i * 1]? = some (txt x) := by simp [hg]
   refine Wq.jmp (q54_7 ..) (fun _ => rfl) ?_
   simp only [stpF, is_lt_len hlt, ixs_49 hlt, rdLoad_ro (hb.ag hA hbx) agg_9 hg', wrap_succ (show i < 9223372036854775807 by omega)]
   refine Wq.ite (fun h => ?_) (fun h => ?_)
   . exact Wq.retE (by have : x = s := by simpa using h
                       subst this; simp) hA
   . have hne : x ≠ s := fun q => h (by rw [q])
     have : ((x :: r).contains s) = r.contains s := by rw [List.contains_cons, show (s == x) = false from by simp; exact fun q => hne q.symm, Bool.false_or]
     rw [this]
     exact ih (i + 1) H nx hd' (by omega) hA
end
end Go.Proofs.YthjhonhhbddhkaaGreatDoor
/- Tokens that are right: the program's answer. -/
namespace Go.Proofs.YthjhonhhbddhkaaGreatDoor
open Go.Ev Go.RowKit
noncomputable section
set_option maxRecDepth 100000
set_option linter.unusedVariables false
set_option linter.unusedSimpArgs false
def PT (f : FuncId) (args : List Value) (v : Value) : Prop := ∀ H nx, TabIn nx H -> ∃ H' nx', Ag nx H nx' H' /\ F P pl X0 (.call f args false none H nx) = some ⟨.ret v, false, H', nx'⟩
theorem PT.of {f : FuncId} {args : List Value} {v : Value} (hx : X0 f args = none) (h : ∀ H nx, TabIn nx H -> Wq P pl X0 (evT P pl (.call f args false none H nx)) nx H v) : PT f args v := fun H nx hT => by
 obtain ⟨_, H', nx', h1, rfl, h2⟩ := h H nx hT
 refine ⟨H', nx', h1, ?_⟩
 rw [F_eq]
 show @Option.rec Value (fun _ => Option Rt) _ (fun v => some ⟨.ret v, false, H, nx⟩) (X0 f args) = _
 rw [hx]
 exact h2
theorem Wq.callT {nx0 : Nat} {H0 : T OB} {nx : Nat} {H : T OB} {R : Value -> T OB -> Nat -> Prop} {f : FuncId} {args : List Value} {u : Value} {k p : Value -> T OB -> Nat -> Q} (hT : TabIn nx0 H0) (hp : PT f args u) (h : Ag nx0 H0 nx H)
 (hk : ∀ H' nx', Ag nx0 H0 nx' H' -> WqR P pl X0 (k u H' nx') nx0 H0 R) : WqR P pl X0 (callQ (.call f args false none H nx) k p) nx0 H0 R := by
 obtain ⟨H1, nx1, h1, h2⟩ := hp H nx (hT.ag h)
 obtain ⟨v, H2, nx2, h3, hR, h4⟩ := hk H1 nx1 (h.trans h1)
 refine ⟨v, H2, nx2, h3, hR, ?_⟩
 show optK (F P pl X0 (.call f args false none H nx)) (fun r => (match r.o with | .ret v => k v r.H r.nx | .pan v => p v r.H r.nx : Q).run (F P pl X0)) none = _
 rw [h2]
 exact h4
theorem sl_99 (H : T OB) : rdSlice P H 99 (some (.pointer (some ⟨0, 0, none⟩))) (some none) (some none) (some none) = some (.slice (some ⟨0, 0, none⟩) 22 22) := rdSlice_all (len := 22) (e := 9) (by kernel_rfl) sz_9 (by omega) (by omega)
theorem sl_144 (H : T OB) : rdSlice P H 144 (some (.pointer (some ⟨1, 0, none⟩))) (some none) (some none) (some none) = some (.slice (some ⟨1, 0, none⟩) 26 26) := rdSlice_all (len := 26) (e := 9) (by kernel_rfl) sz_9 (by omega) (by omega)
theorem w_54_keys {nx0 : Nat} {H0 : T OB} {nx : Nat} {H : T OB} (hT : TabIn nx0 H0) (s : List UInt8) (hA : Ag nx0 H0 nx H) : Wq P pl X0 (evT P pl (.call 54 [.slice (some ⟨1, 0, none⟩) 26 26, txt s] false none H nx)) nx0 H0 (.bool (keysL.contains s)) := by
 rw [q54]
 simp only [stpF]
 exact w_54_7 1 keysL s hT.keys (by have := hT.1; omega) (by decide) 26 keysL 0 H nx rfl (Nat.zero_le _) hA
theorem w_54_signs {nx0 : Nat} {H0 : T OB} {nx : Nat} {H : T OB} (hT : TabIn nx0 H0) (s : List UInt8) (hA : Ag nx0 H0 nx H) : Wq P pl X0 (evT P pl (.call 54 [.slice (some ⟨0, 0, none⟩) 22 22, txt s] false none H nx)) nx0 H0 (.bool (signsL.contains s)) := by
 rw [q54]
 simp only [stpF]
 exact w_54_7 0 signsL s hT.signs (by have := hT.1; omega) (by decide) 22 signsL 0 H nx rfl (Nat.zero_le _) hA
theorem pt_58 (c : UInt8) (r : List UInt8) : PT 58 [txt (c :: r)] (i64 (kindW (c :: r))) := PT.of rfl fun H nx hT => by
 rw [q58]
 have hix := rdIndex_txt (P := P) und_9 (l := c :: r) (i := 0) (c := c) rfl .i64
 rw [show ((0 : Nat) : Int) = 0 from rfl] at hix
 have L6 : ∀ (b : Bool) H1 nx1, Ag nx H nx1 H1 -> b = (firstHigh (c :: r) || (decide (c :: r = [116, 114, 117, 101]) || (decide (c :: r = [102, 97, 108, 115, 101]) || decide (c :: r = [110, 105, 108])))) -> Wq P pl X0 (.jump (l58_6 (txt (c :: r)) b H1 nx1)) nx H (i64 (kindW (c :: r))) := by
  intro b H1 nx1 hA1 hb
  refine Wq.jmp (q58_6 ..) (fun _ => rfl) ?_
  unfold kindW
  rw [<- hb]
  refine Wq.bK (fun h => ?_) (fun h => ?_)
  . rw [if_pos h]; exact Wq.ret hA1
  . rw [if_neg (by rw [h]; decide)]
    simp only [stpF, sl_144]
    refine Wq.callAt rfl (w_54_keys hT _ hA1) fun H2 nx2 hA2 => ?_
    simp only [stpF]
    refine Wq.bK (fun h2 => ?_) (fun h2 => ?_)
    . rw [if_pos h2]; exact Wq.ret hA2
    . rw [if_neg (by rw [h2]; decide)]; exact Wq.ret hA2
 have hb : ∀ l : List UInt8, decide ((⟨⟨c :: r⟩⟩ : ByteArray) = ⟨⟨l⟩⟩) = decide (c :: r = l) := fun l => by rw [decide_eq_decide]; simp
 simp only [stpF, hix]
 refine Wq.call (pu_57 c) (.refl _ _) fun H1 nx1 hA1 => ?_
 simp only [stpF, hb]
 refine Wq.bK (fun h => L6 _ _ _ hA1 (by show true = (isHigh c || _); rw [h]; rfl)) (fun h0 => ?_)
 refine Wq.bK (fun h => L6 _ _ _ hA1 (by show true = (isHigh c || _); rw [h0, h]; rfl)) (fun h1 => ?_)
 refine Wq.bK (fun h => L6 _ _ _ hA1 (by show true = (isHigh c || _); rw [h0, h1, h]; rfl)) (fun h2 => ?_)
 exact L6 _ _ _ hA1 (by show _ = (isHigh c || _); rw [h0, h1, h2]; rfl)
end
end Go.Proofs.YthjhonhhbddhkaaGreatDoor
/- Tokens that are right: the program's answer, whole. -/
namespace Go.Proofs.YthjhonhhbddhkaaGreatDoor
open Go.Ev Go.RowKit
noncomputable section
set_option maxRecDepth 100000
set_option linter.unusedVariables false
set_option linter.unusedSimpArgs false
variable {nx0 : Nat} {H0 : T OB}
theorem w_33_31 (t : Tok) (hl : t.s.length < 9223372036854775807) : ∀ (r : List UInt8) (i : Nat) (H : T OB) (nx : Nat), t.s.drop i = r -> i <= t.s.length -> Ag nx0 H0 nx H ->
 Wq P pl X0 (.jump (l33_31 (eptrV t.v) (i64 (i : Int)) H nx)) nx0 H0 (.bool ((r.all fun c => !decide (c.toNat = 39) && inW c) && decide (t.n = 0))) := by
 intro r
 induction r with
 | nil =>
   intro i H nx hd hi hA
   have hil := drop_nil hd hi
   refine Wq.jmp (q33_31 ..) (fun _ => rfl) ?_
   simp only [stpF, rdLen_str _ und_9, txt_size, hil, not_lt_len]
   exact Wq.ret hA
 | cons c r ih =>
   intro i H nx hd hi hA
   obtain ⟨hg, hlt, hd'⟩ := drop_cons hd
   have L36 : ∀ (b : Bool) H1 nx1, Ag nx0 H0 nx1 H1 -> b = !(!decide (c.toNat = 39) && inW c) -> Wq P pl X0 (.jump (l33_36 (eptrV t.v) (i64 (i : Int)) b H1 nx1)) nx0 H0 (.bool (((c :: r).all fun c => !decide (c.toNat = 39) && inW c) && decide (t.n = 0))) := by
    intro b H1 nx1 hA1 hb
    refine Wq.jmp (q33_36 ..) (fun _ => rfl) ?_
    rw [List.all_cons]
    refine Wq.bK (fun h => ?_) (fun h => ?_)
    . rw [h] at hb
      have : (!decide (c.toNat = 39) && inW c) = false := by rw [<- Bool.not_inj_iff, <- hb]; rfl
      exact Wq.retE (by rw [this]; rfl) hA1
    . rw [h] at hb
      have : (!decide (c.toNat = 39) && inW c) = true := by rw [<- Bool.not_inj_iff, <- hb]; rfl
      rw [this, Bool.true_and]
      simp only [stpF, wrap_succ (show i < 9223372036854775807 by omega)]
      exact ih (i + 1) H1 nx1 hd' (by omega) hA1
   refine Wq.jmp (q33_31 ..) (fun _ => rfl) ?_
   simp only [stpF, rdLen_str _ und_9, txt_size, is_lt_len hlt, rdIndex_txt und_9 hg]
   have e39 : decide ((c.toNat : Int) = 39) = decide (c.toNat = 39) := by rw [decide_eq_decide]; omega
   rw [e39]
   refine Wq.bK (fun h => L36 _ _ _ hA (by rw [h]; rfl)) (fun h => ?_)
   refine Wq.call (pu_56 c) hA fun H1 nx1 hA1 => ?_
   simp only [stpF]
   exact L36 _ _ _ hA1 (by rw [h]; rfl)
theorem w_33_53 (hT : TabIn nx0 H0) (t : Tok) (a : UInt8) (s : List UInt8) (hs : t.s = a :: s) (hl : t.s.length < 9223372036854775807) : ∀ (r : List UInt8) (i : Nat) (H : T OB) (nx : Nat), t.s.drop i = r -> i <= t.s.length -> Ag nx0 H0 nx H ->
 Wq P pl X0 (.jump (l33_53 (eptrV t.v) (i64 (i : Int)) H nx)) nx0 H0 (.bool (r.all inW && (decide (t.n = 0) && decide (kindW t.s = t.k)))) := by
 intro r
 induction r with
 | nil =>
   intro i H nx hd hi hA
   have hil := drop_nil hd hi
   refine Wq.jmp (q33_53 ..) (fun _ => rfl) ?_
   simp only [stpF, rdLen_str _ und_9, txt_size, hil, not_lt_len]
   rw [List.all_nil, Bool.true_and]
   have p98 := pt_58 a s
   rw [<- hs] at p98
   refine Wq.bK (fun h => ?_) (fun h => ?_)
   . rw [h, Bool.true_and]
     refine Wq.callT hT p98 hA fun H1 nx1 hA1 => ?_
     simp only [stpF, Bool.and_true]
     exact Wq.ret hA1
   . rw [h, Bool.false_and]
     exact Wq.ret hA
 | cons c r ih =>
   intro i H nx hd hi hA
   obtain ⟨hg, hlt, hd'⟩ := drop_cons hd
   refine Wq.jmp (q33_53 ..) (fun _ => rfl) ?_
   simp only [stpF, rdLen_str _ und_9, txt_size, is_lt_len hlt, rdIndex_txt und_9 hg]
   refine Wq.call (pu_56 c) hA fun H1 nx1 hA1 => ?_
   simp only [stpF]
   rw [List.all_cons]
   cases inW c with
   | false => exact Wq.ret hA1
   | true =>
     simp only [stpF, wrap_succ (show i < 9223372036854775807 by omega), Bool.true_and]
     exact ih (i + 1) H1 nx1 hd' (by omega) hA1
theorem pt_33 (t : Tok) (hl : t.s.length < 9223372036854775807) : PT 33 [t.v] (.bool (tokOk t)) := PT.of rfl fun H nx hT => by
 rw [q33]
 refine Wq.natF' (.refl _ _) fun hA => ?_
 have hE : decide ((⟨⟨t.s⟩⟩ : ByteArray) = ⟨⟨[]⟩⟩) = decide (t.s = []) := by rw [decide_eq_decide]; simp
 simp only [stpF, hE]
 unfold tokOk
 refine Wq.ite (fun h => ?_) (fun h0 => ?_)
 . rw [if_pos h]
   refine Wq.bK (fun h => ?_) (fun h => ?_)
   . rw [h, Bool.true_and]; exact Wq.ret hA
   . rw [h, Bool.false_and]; exact Wq.ret hA
 rw [if_neg h0]
 refine Wq.ite (fun h => ?_) (fun h1 => ?_)
 . rw [if_pos h]
   refine Wq.bK (fun h => ?_) (fun h => ?_)
   . rw [h, Bool.true_and]
     refine Wq.bK (fun h => ?_) (fun h => ?_)
     . rw [h, Bool.true_and]; exact Wq.ret hA
     . rw [h, Bool.false_and]; exact Wq.ret hA
   . rw [h, Bool.false_and]; exact Wq.ret hA
 rw [if_neg h1]
 refine Wq.ite (fun h => ?_) (fun h2 => ?_)
 . rw [if_pos h]; exact Wq.ret hA
 rw [if_neg h2]
 refine Wq.ite (fun h => ?_) (fun h7 => ?_)
 . rw [if_pos h]
   refine Wq.bK (fun h => ?_) (fun h => ?_)
   . rw [h, Bool.true_and]
     simp only [stpF, sl_99]
     refine Wq.callAt rfl (w_54_signs hT _ hA) fun H2 nx2 hA2 => ?_
     simp only [stpF]
     exact Wq.ret hA2
   . rw [h, Bool.false_and]; exact Wq.ret hA
 rw [if_neg h7]
 refine Wq.ite (fun h => ?_) (fun h5 => ?_)
 . rw [if_pos h]
   have L26 : ∀ (b : Bool) H1 nx1, Ag nx H nx1 H1 -> (b = true -> isVar t.s = false) -> (b = false -> ∃ c d r, t.s = c :: d :: r /\ isVar t.s = r.all fun c => !decide (c.toNat = 39) && inW c) -> Wq P pl X0 (.jump (l33_26 (eptrV t.v) b H1 nx1)) nx H (.bool (isVar t.s && decide (t.n = 0))) := by
    intro b H1 nx1 hA1 hb1 hb2
    refine Wq.jmp (q33_26 ..) (fun _ => rfl) ?_
    refine Wq.bK (fun h => ?_) (fun h => ?_)
    . rw [hb1 h]; exact Wq.ret hA1
    . obtain ⟨c, d, r, hs, hv⟩ := hb2 h
      rw [hv]
      exact w_33_31 t hl r 2 H1 nx1 (by rw [hs]; rfl) (by rw [hs]; simp) hA1
   simp only [stpF, rdLen_str _ und_9, txt_size]
   refine Wq.ite (fun hl2 => L26 _ _ _ hA (fun _ => ?_) (fun q => by cases q)) (fun hl2 => ?_)
   . match hs : t.s with
     | [] => rfl
     | [a] => rfl
     | a :: b :: r => rw [hs] at hl2; simp at hl2; omega
   obtain ⟨a, b, r, hs⟩ : ∃ a b r, t.s = a :: b :: r := by
    match hs : t.s with
    | [] => rw [hs] at hl2; simp at hl2
    | [a] => rw [hs] at hl2; simp at hl2
    | a :: b :: r => exact ⟨a, b, r, rfl⟩
   have i0 := rdIndex_txt (P := P) und_9 (l := t.s) (i := 0) (c := a) (by rw [hs]; rfl) .i64
   have i1 := rdIndex_txt (P := P) und_9 (l := t.s) (i := 1) (c := b) (by rw [hs]; rfl) .i64
   rw [show ((0 : Nat) : Int) = 0 from rfl] at i0
   rw [show ((1 : Nat) : Int) = 1 from rfl] at i1
   have hv : isVar t.s = (decide (a.toNat = 39) && (isLow b && r.all fun c => !decide (c.toNat = 39) && inW c)) := by rw [hs]; rfl
   have e39 : decide ((a.toNat : Int) = 39) = decide (a.toNat = 39) := by rw [decide_eq_decide]; omega
   simp only [stpF, i0, i1, e39]
   refine Wq.bK (fun h => L26 _ _ _ hA (fun _ => ?_) (fun q => by cases q)) (fun h => ?_)
   . rw [hv, show decide (a.toNat = 39) = false from by rw [<- Bool.not_inj_iff, h]; rfl]; rfl
   have ha : decide (a.toNat = 39) = true := by rw [<- Bool.not_inj_iff, h]; rfl
   refine Wq.call (pu_55 b) hA fun H1 nx1 hA1 => ?_
   simp only [stpF]
   refine L26 _ _ _ hA1 (fun q => ?_) (fun q => ⟨a, b, r, hs, ?_⟩)
   . rw [hv, show isLow b = false from by rw [<- Bool.not_inj_iff, q]; rfl]; simp
   . rw [hv, ha, show isLow b = true from by rw [<- Bool.not_inj_iff, q]; rfl]; rfl
 rw [if_neg h5]
 have L46 : Wq P pl X0 (.jump (l33_46 (eptrV t.v) true H (nx + 1))) nx H (.bool (isWord t.s && (decide (t.n = 0) && decide (kindW t.s = t.k)))) := by
  refine Wq.jmp (q33_46 ..) (fun _ => rfl) ?_
  cases hs : t.s with
  | nil =>
    have e1 : decide ((⟨⟨t.s⟩⟩ : ByteArray) = ⟨⟨[]⟩⟩) = true := by rw [hs]; simp
    simp only [stpF, e1]
    refine Wq.jmp (q33_48 ..) (fun _ => rfl) ?_
    exact Wq.ret hA
  | cons a r =>
    rw [<- hs]
    have i0 := rdIndex_txt (P := P) und_9 (l := a :: r) (i := 0) (c := a) rfl .i64
    rw [show ((0 : Nat) : Int) = 0 from rfl] at i0
    have hne : decide ((⟨⟨a :: r⟩⟩ : ByteArray) = ⟨⟨[]⟩⟩) = false := by simp
    have hw : isWord t.s = ((isLow a || isHigh a) && r.all inW) := by rw [hs]; rfl
    have L48 : ∀ (b : Bool) H1 nx1, Ag nx H nx1 H1 -> b = !(isLow a || isHigh a) -> Wq P pl X0 (.jump (l33_48 (eptrV t.v) b H1 nx1)) nx H (.bool (isWord t.s && (decide (t.n = 0) && decide (kindW t.s = t.k)))) := by
     intro b H1 nx1 hA1 hb
     refine Wq.jmp (q33_48 ..) (fun _ => rfl) ?_
     rw [hw]
     refine Wq.bK (fun h => ?_) (fun h => ?_)
     . have : (isLow a || isHigh a) = false := by rw [<- Bool.not_inj_iff, <- hb, h]; rfl
       exact Wq.retE (by rw [this]; rfl) hA1
     . have h1 : (isLow a || isHigh a) = true := by rw [<- Bool.not_inj_iff, <- hb, h]; rfl
       rw [h1, Bool.true_and]
       exact w_33_53 hT t a r hs hl r 1 H1 nx1 (by rw [hs]; rfl) (by rw [hs]; simp) hA1
    have e0 : rdIndex P 9 (some (txt t.s)) (some (.int .i64 0)) = some (.int .u8 (a.toNat : Int)) := by rw [hs]; exact i0
    have e1 : decide ((⟨⟨t.s⟩⟩ : ByteArray) = ⟨⟨[]⟩⟩) = false := by rw [hs]; exact hne
    simp only [stpF, e0, e1]
    refine Wq.call (pu_55 a) hA fun H1 nx1 hA1 => ?_
    simp only [stpF]
    cases hlo : isLow a with
    | true =>
      simp only [stpF]
      exact L48 false _ _ hA1 (by rw [hlo]; rfl)
    | false =>
      simp only [stpF]
      refine Wq.call (pu_57 a) hA1 fun H2 nx2 hA2 => ?_
      simp only [stpF]
      exact L48 (!isHigh a) _ _ hA2 (by rw [hlo]; rfl)
 refine Wq.ite (fun h3 => ?_) (fun h3 => ?_)
 . rw [if_pos (Or.inl h3), show decide (t.k = 3) = true from by simp [h3]]; exact L46
 refine Wq.ite (fun h4 => ?_) (fun h4 => ?_)
 . rw [if_pos (Or.inr (Or.inl h4)), show decide (t.k = 4) = true from by simp [h4]]; exact L46
 by_cases h6 : t.k = 6
 . rw [if_pos (Or.inr (Or.inr h6)), show decide (t.k = 6) = true from by simp [h6]]; exact L46
 . rw [if_neg (by omega), show decide (t.k = 6) = false from by simp [h6]]
   refine Wq.jmp (q33_46 ..) (fun _ => rfl) ?_
   exact Wq.ret hA
end
end Go.Proofs.YthjhonhhbddhkaaGreatDoor
/- Trees as values. -/
namespace Go.Proofs.YthjhonhhbddhkaaGreatDoor
open Go.Ev Go.RowKit
noncomputable section
set_option maxRecDepth 100000
set_option linter.unusedVariables false
set_option linter.unusedSimpArgs false
inductive Pat where
 | mk (k n : Int) (s : List UInt8) (l : List Pat)
inductive TyS where
 | mk (k : Int) (s : List UInt8) (l : List TyS)
structure Con where
 s : List UInt8
 arg : List TyS
structure Data where
 vars : List (List UInt8)
 s : List UInt8
 cons : List Con
mutual
inductive Exp where
 | mk (k n : Int) (s : List UInt8) (l : List Exp) (p : List Pat) (d : List Dec)
inductive Dec where
 | mk (k : Int) (p : Pat) (e : Exp) (f : List Fn) (x : Data) (c : Con)
inductive Fn where
 | mk (s : List UInt8) (p : List Pat) (b : Exp)
end
def Pat.k : Pat -> Int | .mk k _ _ _ => k
def Pat.n : Pat -> Int | .mk _ n _ _ => n
def Pat.s : Pat -> List UInt8 | .mk _ _ s _ => s
def Pat.l : Pat -> List Pat | .mk _ _ _ l => l
def TyS.k : TyS -> Int | .mk k _ _ => k
def TyS.s : TyS -> List UInt8 | .mk _ s _ => s
def TyS.l : TyS -> List TyS | .mk _ _ l => l
def Exp.k : Exp -> Int | .mk k _ _ _ _ _ => k
def Exp.n : Exp -> Int | .mk _ n _ _ _ _ => n
def Exp.s : Exp -> List UInt8 | .mk _ _ s _ _ _ => s
def Exp.l : Exp -> List Exp | .mk _ _ _ l _ _ => l
def Exp.p : Exp -> List Pat | .mk _ _ _ _ p _ => p
def Exp.d : Exp -> List Dec | .mk _ _ _ _ _ d => d
def Dec.k : Dec -> Int | .mk k _ _ _ _ _ => k
def Dec.p : Dec -> Pat | .mk _ p _ _ _ _ => p
def Dec.e : Dec -> Exp | .mk _ _ e _ _ _ => e
def Dec.f : Dec -> List Fn | .mk _ _ _ f _ _ => f
def Dec.x : Dec -> Data | .mk _ _ _ _ x _ => x
def Dec.c : Dec -> Con | .mk _ _ _ _ _ c => c
def Fn.s : Fn -> List UInt8 | .mk s _ _ => s
def Fn.p : Fn -> List Pat | .mk _ p _ => p
def Fn.b : Fn -> Exp | .mk _ _ b => b
mutual
def Pat.cs : Pat -> List Value
 | .mk k n s l => [i64 k, i64 n, txt s, rowV 4 (patsV l)]
def patsV : List Pat -> List Value
 | [] => []
 | p :: l => .agg ⟨p.cs⟩ :: patsV l
end
mutual
def TyS.cs : TyS -> List Value
 | .mk k s l => [i64 k, txt s, rowV 3 (tysV l)]
def tysV : List TyS -> List Value
 | [] => []
 | p :: l => .agg ⟨p.cs⟩ :: tysV l
end
def Pat.v (p : Pat) : Value := .agg ⟨p.cs⟩
def TyS.v (p : TyS) : Value := .agg ⟨p.cs⟩
abbrev patsR (l : List Pat) : Value := rowV 4 (l.map Pat.v)
abbrev tysR (l : List TyS) : Value := rowV 3 (l.map TyS.v)
abbrev strsR (l : List (List UInt8)) : Value := rowV 1 (l.map txt)
def Con.cs (c : Con) : List Value := [txt c.s, tysR c.arg]
def Con.v (c : Con) : Value := .agg ⟨c.cs⟩
abbrev consR (l : List Con) : Value := rowV 2 (l.map Con.v)
def Data.cs (x : Data) : List Value := [strsR x.vars, txt x.s, consR x.cons]
def Data.v (x : Data) : Value := .agg ⟨x.cs⟩
mutual
def Exp.cs : Exp -> List Value
 | .mk k n s l p d => [i64 k, i64 n, txt s, rowV 6 (expsV l), patsR p, rowV 17 (decsV d)]
def Dec.cs : Dec -> List Value
 | .mk k p e f x c => i64 k :: (p.cs ++ (e.cs ++ (rowV 8 (fnsV f) :: (x.cs ++ c.cs))))
def Fn.cs : Fn -> List Value
 | .mk s p b => txt s :: patsR p :: b.cs
def expsV : List Exp -> List Value
 | [] => []
 | p :: l => .agg ⟨p.cs⟩ :: expsV l
def decsV : List Dec -> List Value
 | [] => []
 | p :: l => .agg ⟨p.cs⟩ :: decsV l
def fnsV : List Fn -> List Value
 | [] => []
 | p :: l => .agg ⟨p.cs⟩ :: fnsV l
end
def Exp.v (p : Exp) : Value := .agg ⟨p.cs⟩
def Dec.v (p : Dec) : Value := .agg ⟨p.cs⟩
def Fn.v (p : Fn) : Value := .agg ⟨p.cs⟩
abbrev expsR (l : List Exp) : Value := rowV 6 (l.map Exp.v)
abbrev decsR (l : List Dec) : Value := rowV 17 (l.map Dec.v)
abbrev fnsR (l : List Fn) : Value := rowV 8 (l.map Fn.v)
theorem patsV_eq (l : List Pat) : patsV l = l.map Pat.v := by
 induction l with
 | nil => rw [patsV]; rfl
 | cons s l ih => rw [patsV, ih]; rfl
theorem tysV_eq (l : List TyS) : tysV l = l.map TyS.v := by
 induction l with
 | nil => rw [tysV]; rfl
 | cons s l ih => rw [tysV, ih]; rfl
theorem expsV_eq (l : List Exp) : expsV l = l.map Exp.v := by
 induction l with
 | nil => rw [expsV]; rfl
 | cons s l ih => rw [expsV, ih]; rfl
theorem decsV_eq (l : List Dec) : decsV l = l.map Dec.v := by
 induction l with
 | nil => rw [decsV]; rfl
 | cons s l ih => rw [decsV, ih]; rfl
theorem fnsV_eq (l : List Fn) : fnsV l = l.map Fn.v := by
 induction l with
 | nil => rw [fnsV]; rfl
 | cons s l ih => rw [fnsV, ih]; rfl
theorem Pat.cs_eq (p : Pat) : p.cs = [i64 p.k, i64 p.n, txt p.s, patsR p.l] := by cases p; rw [Pat.cs, patsV_eq]; rfl
theorem TyS.cs_eq (p : TyS) : p.cs = [i64 p.k, txt p.s, tysR p.l] := by cases p; rw [TyS.cs, tysV_eq]; rfl
theorem Exp.cs_eq (p : Exp) : p.cs = [i64 p.k, i64 p.n, txt p.s, expsR p.l, patsR p.p, decsR p.d] := by cases p; rw [Exp.cs, expsV_eq, decsV_eq]; rfl
theorem Fn.cs_eq (p : Fn) : p.cs = [txt p.s, patsR p.p, i64 p.b.k, i64 p.b.n, txt p.b.s, expsR p.b.l, patsR p.b.p, decsR p.b.d] := by cases p; rw [Fn.cs, Exp.cs_eq]; rfl
theorem Dec.cs_eq (p : Dec) : p.cs = [i64 p.k, i64 p.p.k, i64 p.p.n, txt p.p.s, patsR p.p.l, i64 p.e.k, i64 p.e.n, txt p.e.s, expsR p.e.l, patsR p.e.p, decsR p.e.d, fnsR p.f, strsR p.x.vars, txt p.x.s, consR p.x.cons, txt p.c.s, tysR p.c.arg] := by cases p; rw [Dec.cs, Exp.cs_eq, Pat.cs_eq, fnsV_eq]; rfl
theorem Pat.v_eq (p : Pat) : p.v = .agg ⟨[i64 p.k, i64 p.n, txt p.s, patsR p.l]⟩ := by rw [Pat.v, Pat.cs_eq]
theorem TyS.v_eq (p : TyS) : p.v = .agg ⟨[i64 p.k, txt p.s, tysR p.l]⟩ := by rw [TyS.v, TyS.cs_eq]
theorem Exp.v_eq (p : Exp) : p.v = .agg ⟨[i64 p.k, i64 p.n, txt p.s, expsR p.l, patsR p.p, decsR p.d]⟩ := by rw [Exp.v, Exp.cs_eq]
theorem Fn.v_eq (p : Fn) : p.v = .agg ⟨[txt p.s, patsR p.p, i64 p.b.k, i64 p.b.n, txt p.b.s, expsR p.b.l, patsR p.b.p, decsR p.b.d]⟩ := by rw [Fn.v, Fn.cs_eq]
theorem Con.v_eq (p : Con) : p.v = .agg ⟨[txt p.s, tysR p.arg]⟩ := rfl
theorem Data.v_eq (p : Data) : p.v = .agg ⟨[strsR p.vars, txt p.s, consR p.cons]⟩ := rfl
theorem Dec.v_eq (p : Dec) : p.v = .agg ⟨[i64 p.k, i64 p.p.k, i64 p.p.n, txt p.p.s, patsR p.p.l, i64 p.e.k, i64 p.e.n, txt p.e.s, expsR p.e.l, patsR p.e.p, decsR p.e.d, fnsR p.f, strsR p.x.vars, txt p.x.s, consR p.x.cons, txt p.c.s, tysR p.c.arg]⟩ := by rw [Dec.v, Dec.cs_eq]
theorem Pat.ind {p : Pat -> Prop} (h : ∀ t : Pat, (∀ c, c ∈ t.l -> p c) -> p t) (t : Pat) : p t :=
 Pat.rec (motive_1 := p) (motive_2 := fun l => ∀ c, c ∈ l -> p c) (fun k n s l h1 => h _ h1) (fun c hc => nomatch hc) (fun a l h1 h2 c hc => (List.mem_cons.1 hc).elim (fun e => e ▸ h1) (h2 c)) t
theorem TyS.ind {p : TyS -> Prop} (h : ∀ t : TyS, (∀ c, c ∈ t.l -> p c) -> p t) (t : TyS) : p t :=
 TyS.rec (motive_1 := p) (motive_2 := fun l => ∀ c, c ∈ l -> p c) (fun k s l h1 => h _ h1) (fun c hc => nomatch hc) (fun a l h1 h2 c hc => (List.mem_cons.1 hc).elim (fun e => e ▸ h1) (h2 c)) t
theorem Exp.ind {p : Exp -> Prop} {q : Dec -> Prop} (h : ∀ t : Exp, (∀ c, c ∈ t.l -> p c) -> (∀ c, c ∈ t.d -> q c) -> p t) (h' : ∀ t : Dec, p t.e -> (∀ f, f ∈ t.f -> p f.b) -> q t) (t : Exp) : p t :=
 Exp.rec (motive_1 := p) (motive_2 := q) (motive_3 := fun f => p f.b) (motive_4 := fun l => ∀ c, c ∈ l -> p c) (motive_5 := fun l => ∀ c, c ∈ l -> q c) (motive_6 := fun l => ∀ f, f ∈ l -> p f.b)
  (fun k n s l pt d h1 h2 => h _ h1 h2) (fun k pt e f x c h1 h2 => h' _ h1 h2) (fun s pt b h1 => h1)
  (fun c hc => nomatch hc) (fun a l h1 h2 c hc => (List.mem_cons.1 hc).elim (fun e => e ▸ h1) (h2 c))
  (fun c hc => nomatch hc) (fun a l h1 h2 c hc => (List.mem_cons.1 hc).elim (fun e => e ▸ h1) (h2 c))
  (fun c hc => nomatch hc) (fun a l h1 h2 c hc => (List.mem_cons.1 hc).elim (fun e => e ▸ h1) (h2 c)) t
theorem Dec.ind {p : Exp -> Prop} {q : Dec -> Prop} (h : ∀ t : Exp, (∀ c, c ∈ t.l -> p c) -> (∀ c, c ∈ t.d -> q c) -> p t) (h' : ∀ t : Dec, p t.e -> (∀ f, f ∈ t.f -> p f.b) -> q t) (t : Dec) : q t := h' t (Exp.ind h h' _) fun f _ => Exp.ind h h' _
abbrev big : Nat := 1125899906842624
abbrev sOk (s : List UInt8) : Prop := s.length < 140737488355328
abbrev rg (n : Int) : Prop := -9223372036854775808 <= n /\ n < 9223372036854775808
mutual
def Pat.ok : Pat -> Prop
 | .mk k n s l => rg n /\ sOk s /\ l.length < big /\ patsOk l
def patsOk : List Pat -> Prop
 | [] => True
 | p :: l => p.ok /\ patsOk l
end
mutual
def TyS.ok : TyS -> Prop
 | .mk k s l => sOk s /\ l.length < big /\ tysOk l
def tysOk : List TyS -> Prop
 | [] => True
 | p :: l => p.ok /\ tysOk l
end
def Con.ok (c : Con) : Prop := sOk c.s /\ c.arg.length < big /\ ∀ t, t ∈ c.arg -> t.ok
def Data.ok (x : Data) : Prop := (x.vars.length < big /\ ∀ s, s ∈ x.vars -> sOk s) /\ sOk x.s /\ x.cons.length < big /\ ∀ c, c ∈ x.cons -> c.ok
mutual
def Exp.ok : Exp -> Prop
 | .mk k n s l p d => rg n /\ sOk s /\ (l.length < big /\ expsOk l) /\ (p.length < big /\ ∀ q, q ∈ p -> q.ok) /\ d.length < big /\ decsOk d
def Dec.ok : Dec -> Prop
 | .mk k p e f x c => p.ok /\ e.ok /\ (f.length < big /\ fnsOk f) /\ x.ok /\ c.ok
def Fn.ok : Fn -> Prop
 | .mk s p b => sOk s /\ (p.length < big /\ ∀ q, q ∈ p -> q.ok) /\ b.ok
def expsOk : List Exp -> Prop
 | [] => True
 | p :: l => p.ok /\ expsOk l
def decsOk : List Dec -> Prop
 | [] => True
 | p :: l => p.ok /\ decsOk l
def fnsOk : List Fn -> Prop
 | [] => True
 | p :: l => p.ok /\ fnsOk l
end
theorem patsOk_iff (l : List Pat) : patsOk l ↔ ∀ c, c ∈ l -> c.ok := by
 induction l with
 | nil => simp [patsOk]
 | cons s l ih => simp [patsOk, ih]
theorem tysOk_iff (l : List TyS) : tysOk l ↔ ∀ c, c ∈ l -> c.ok := by
 induction l with
 | nil => simp [tysOk]
 | cons s l ih => simp [tysOk, ih]
theorem expsOk_iff (l : List Exp) : expsOk l ↔ ∀ c, c ∈ l -> c.ok := by
 induction l with
 | nil => simp [expsOk]
 | cons s l ih => simp [expsOk, ih]
theorem decsOk_iff (l : List Dec) : decsOk l ↔ ∀ c, c ∈ l -> c.ok := by
 induction l with
 | nil => simp [decsOk]
 | cons s l ih => simp [decsOk, ih]
theorem fnsOk_iff (l : List Fn) : fnsOk l ↔ ∀ c, c ∈ l -> c.ok := by
 induction l with
 | nil => simp [fnsOk]
 | cons s l ih => simp [fnsOk, ih]
theorem Pat.ok_iff (p : Pat) : p.ok ↔ rg p.n /\ sOk p.s /\ p.l.length < big /\ ∀ c, c ∈ p.l -> c.ok := by cases p; rw [Pat.ok, patsOk_iff]; rfl
theorem TyS.ok_iff (p : TyS) : p.ok ↔ sOk p.s /\ p.l.length < big /\ ∀ c, c ∈ p.l -> c.ok := by cases p; rw [TyS.ok, tysOk_iff]; rfl
theorem Exp.ok_iff (p : Exp) : p.ok ↔ rg p.n /\ sOk p.s /\ (p.l.length < big /\ ∀ c, c ∈ p.l -> c.ok) /\ (p.p.length < big /\ ∀ c, c ∈ p.p -> c.ok) /\ p.d.length < big /\ ∀ c, c ∈ p.d -> c.ok := by cases p; rw [Exp.ok, expsOk_iff, decsOk_iff]; rfl
theorem Dec.ok_iff (p : Dec) : p.ok ↔ p.p.ok /\ p.e.ok /\ (p.f.length < big /\ ∀ c, c ∈ p.f -> c.ok) /\ p.x.ok /\ p.c.ok := by cases p; rw [Dec.ok, fnsOk_iff]; rfl
theorem Fn.ok_iff (p : Fn) : p.ok ↔ sOk p.s /\ (p.p.length < big /\ ∀ c, c ∈ p.p -> c.ok) /\ p.b.ok := by cases p; rw [Fn.ok]; rfl
end
end Go.Proofs.YthjhonhhbddhkaaGreatDoor
/- Parts of trees. -/
namespace Go.Proofs.YthjhonhhbddhkaaGreatDoor
open Go.Ev Go.RowKit
noncomputable section
set_option maxRecDepth 100000
set_option linter.unusedVariables false
set_option linter.unusedSimpArgs false
theorem fExp_0 (e : Exp) : rdFieldAddr P 44 (some (eptrV e.v)) 0 = some (eptrV (i64 e.k)) := by rw [Exp.v_eq]; kernel_rfl
theorem fExp_1 (e : Exp) : rdFieldAddr P 44 (some (eptrV e.v)) 1 = some (eptrV (i64 e.n)) := by rw [Exp.v_eq]; kernel_rfl
theorem fExp_2 (e : Exp) : rdFieldAddr P 44 (some (eptrV e.v)) 2 = some (eptrV (txt e.s)) := by rw [Exp.v_eq]; kernel_rfl
theorem fExp_3 (e : Exp) : rdFieldAddr P 44 (some (eptrV e.v)) 3 = some (eptrV (expsR e.l)) := by rw [Exp.v_eq]; kernel_rfl
theorem fExp_4 (e : Exp) : rdFieldAddr P 44 (some (eptrV e.v)) 4 = some (eptrV (patsR e.p)) := by rw [Exp.v_eq]; kernel_rfl
theorem fExp_5 (e : Exp) : rdFieldAddr P 44 (some (eptrV e.v)) 5 = some (eptrV (decsR e.d)) := by rw [Exp.v_eq]; kernel_rfl
theorem lExp (H : T OB) (e : Exp) : rdLoad P H 44 (some (eptrV e.v)) = some e.v := by rw [Exp.v_eq]; kernel_rfl
theorem nExp (e : Exp) : e.v.cells.toList.length = 6 := by rw [Exp.v_eq]; rfl
theorem oExp (e : Exp) : e.v.cells.toList.all oneCell = true := by rw [Exp.v_eq]; rfl
theorem fDec_0 (e : Dec) : rdFieldAddr P 57 (some (eptrV e.v)) 0 = some (eptrV (i64 e.k)) := by rw [Dec.v_eq]; kernel_rfl
theorem fDec_1 (e : Dec) : rdFieldAddr P 57 (some (eptrV e.v)) 1 = some (eptrV (e.p.v)) := by rw [Dec.v_eq]; rw [Pat.v_eq]; kernel_rfl
theorem fDec_2 (e : Dec) : rdFieldAddr P 57 (some (eptrV e.v)) 2 = some (eptrV (e.e.v)) := by rw [Dec.v_eq]; rw [Exp.v_eq]; kernel_rfl
theorem fDec_3 (e : Dec) : rdFieldAddr P 57 (some (eptrV e.v)) 3 = some (eptrV (fnsR e.f)) := by rw [Dec.v_eq]; kernel_rfl
theorem fDec_4 (e : Dec) : rdFieldAddr P 57 (some (eptrV e.v)) 4 = some (eptrV (e.x.v)) := by rw [Dec.v_eq]; rw [Data.v_eq]; kernel_rfl
theorem fDec_5 (e : Dec) : rdFieldAddr P 57 (some (eptrV e.v)) 5 = some (eptrV (e.c.v)) := by rw [Dec.v_eq]; rw [Con.v_eq]; kernel_rfl
theorem lDec (H : T OB) (e : Dec) : rdLoad P H 57 (some (eptrV e.v)) = some e.v := by rw [Dec.v_eq]; kernel_rfl
theorem nDec (e : Dec) : e.v.cells.toList.length = 17 := by rw [Dec.v_eq]; rfl
theorem oDec (e : Dec) : e.v.cells.toList.all oneCell = true := by rw [Dec.v_eq]; rfl
theorem fFn_0 (e : Fn) : rdFieldAddr P 65 (some (eptrV e.v)) 0 = some (eptrV (txt e.s)) := by rw [Fn.v_eq]; kernel_rfl
theorem fFn_1 (e : Fn) : rdFieldAddr P 65 (some (eptrV e.v)) 1 = some (eptrV (patsR e.p)) := by rw [Fn.v_eq]; kernel_rfl
theorem fFn_2 (e : Fn) : rdFieldAddr P 65 (some (eptrV e.v)) 2 = some (eptrV (e.b.v)) := by rw [Fn.v_eq]; rw [Exp.v_eq]; kernel_rfl
theorem lFn (H : T OB) (e : Fn) : rdLoad P H 65 (some (eptrV e.v)) = some e.v := by rw [Fn.v_eq]; kernel_rfl
theorem nFn (e : Fn) : e.v.cells.toList.length = 8 := by rw [Fn.v_eq]; rfl
theorem oFn (e : Fn) : e.v.cells.toList.all oneCell = true := by rw [Fn.v_eq]; rfl
theorem fData_0 (e : Data) : rdFieldAddr P 52 (some (eptrV e.v)) 0 = some (eptrV (strsR e.vars)) := by rw [Data.v_eq]; kernel_rfl
theorem fData_1 (e : Data) : rdFieldAddr P 52 (some (eptrV e.v)) 1 = some (eptrV (txt e.s)) := by rw [Data.v_eq]; kernel_rfl
theorem fData_2 (e : Data) : rdFieldAddr P 52 (some (eptrV e.v)) 2 = some (eptrV (consR e.cons)) := by rw [Data.v_eq]; kernel_rfl
theorem lData (H : T OB) (e : Data) : rdLoad P H 52 (some (eptrV e.v)) = some e.v := by rw [Data.v_eq]; kernel_rfl
theorem nData (e : Data) : e.v.cells.toList.length = 3 := by rw [Data.v_eq]; rfl
theorem oData (e : Data) : e.v.cells.toList.all oneCell = true := by rw [Data.v_eq]; rfl
theorem fCon_0 (e : Con) : rdFieldAddr P 55 (some (eptrV e.v)) 0 = some (eptrV (txt e.s)) := by rw [Con.v_eq]; kernel_rfl
theorem fCon_1 (e : Con) : rdFieldAddr P 55 (some (eptrV e.v)) 1 = some (eptrV (tysR e.arg)) := by rw [Con.v_eq]; kernel_rfl
theorem lCon (H : T OB) (e : Con) : rdLoad P H 55 (some (eptrV e.v)) = some e.v := by rw [Con.v_eq]; kernel_rfl
theorem nCon (e : Con) : e.v.cells.toList.length = 2 := by rw [Con.v_eq]; rfl
theorem oCon (e : Con) : e.v.cells.toList.all oneCell = true := by rw [Con.v_eq]; rfl
theorem fPat_0 (e : Pat) : rdFieldAddr P 47 (some (eptrV e.v)) 0 = some (eptrV (i64 e.k)) := by rw [Pat.v_eq]; kernel_rfl
theorem fPat_1 (e : Pat) : rdFieldAddr P 47 (some (eptrV e.v)) 1 = some (eptrV (i64 e.n)) := by rw [Pat.v_eq]; kernel_rfl
theorem fPat_2 (e : Pat) : rdFieldAddr P 47 (some (eptrV e.v)) 2 = some (eptrV (txt e.s)) := by rw [Pat.v_eq]; kernel_rfl
theorem fPat_3 (e : Pat) : rdFieldAddr P 47 (some (eptrV e.v)) 3 = some (eptrV (patsR e.l)) := by rw [Pat.v_eq]; kernel_rfl
theorem lPat (H : T OB) (e : Pat) : rdLoad P H 47 (some (eptrV e.v)) = some e.v := by rw [Pat.v_eq]; kernel_rfl
theorem nPat (e : Pat) : e.v.cells.toList.length = 4 := by rw [Pat.v_eq]; rfl
theorem oPat (e : Pat) : e.v.cells.toList.all oneCell = true := by rw [Pat.v_eq]; rfl
theorem fTyS_0 (e : TyS) : rdFieldAddr P 138 (some (eptrV e.v)) 0 = some (eptrV (i64 e.k)) := by rw [TyS.v_eq]; kernel_rfl
theorem fTyS_1 (e : TyS) : rdFieldAddr P 138 (some (eptrV e.v)) 1 = some (eptrV (txt e.s)) := by rw [TyS.v_eq]; kernel_rfl
theorem fTyS_2 (e : TyS) : rdFieldAddr P 138 (some (eptrV e.v)) 2 = some (eptrV (tysR e.l)) := by rw [TyS.v_eq]; kernel_rfl
theorem lTyS (H : T OB) (e : TyS) : rdLoad P H 138 (some (eptrV e.v)) = some e.v := by rw [TyS.v_eq]; kernel_rfl
theorem nTyS (e : TyS) : e.v.cells.toList.length = 3 := by rw [TyS.v_eq]; rfl
theorem oTyS (e : TyS) : e.v.cells.toList.all oneCell = true := by rw [TyS.v_eq]; rfl
theorem sttF : type_of% (And.intro @fExp_0 (And.intro @fExp_1 (And.intro @fExp_2 (And.intro @fExp_3 (And.intro @fExp_4 (And.intro @fExp_5 (And.intro @lExp (And.intro @fDec_0 (And.intro @fDec_1 (And.intro @fDec_2 (And.intro @fDec_3 (And.intro @fDec_4 (And.intro @fDec_5 (And.intro @lDec (And.intro @fFn_0 (And.intro @fFn_1 (And.intro @fFn_2 (And.intro @lFn (And.intro @fData_0 (And.intro @fData_1 (And.intro @fData_2 (And.intro @lData (And.intro @fCon_0 (And.intro @fCon_1 (And.intro @lCon (And.intro @fPat_0 (And.intro @fPat_1 (And.intro @fPat_2 (And.intro @fPat_3 (And.intro @lPat (And.intro @fTyS_0 (And.intro @fTyS_1 (And.intro @fTyS_2 @lTyS))))))))))))))))))))))))))))))))) := And.intro @fExp_0 (And.intro @fExp_1 (And.intro @fExp_2 (And.intro @fExp_3 (And.intro @fExp_4 (And.intro @fExp_5 (And.intro @lExp (And.intro @fDec_0 (And.intro @fDec_1 (And.intro @fDec_2 (And.intro @fDec_3 (And.intro @fDec_4 (And.intro @fDec_5 (And.intro @lDec (And.intro @fFn_0 (And.intro @fFn_1 (And.intro @fFn_2 (And.intro @lFn (And.intro @fData_0 (And.intro @fData_1 (And.intro @fData_2 (And.intro @lData (And.intro @fCon_0 (And.intro @fCon_1 (And.intro @lCon (And.intro @fPat_0 (And.intro @fPat_1 (And.intro @fPat_2 (And.intro @fPat_3 (And.intro @lPat (And.intro @fTyS_0 (And.intro @fTyS_1 (And.intro @fTyS_2 @lTyS))))))))))))))))))))))))))))))))
end
end Go.Proofs.YthjhonhhbddhkaaGreatDoor
/- How deep trees are: the answers of both. -/
namespace Go.Proofs.YthjhonhhbddhkaaGreatDoor
open Go.Ev Go.RowKit
noncomputable section
set_option maxRecDepth 100000
set_option linter.unusedVariables false
set_option linter.unusedSimpArgs false
variable {nx0 : Nat} {H0 : T OB}
def mx (a b : Int) : Int := if b > a then b else a
theorem sm_lt {n : Nat} (h : n < big) : n < 9223372036854775807 := Nat.lt_trans h (by decide)
theorem Wq.base {nx1 : Nat} {H1 : T OB} {q : Q} {v : Value} (hA : Ag nx0 H0 nx1 H1) (h : Wq P pl X0 q nx1 H1 v) : Wq P pl X0 q nx0 H0 v := by
 obtain ⟨u, H', nx', h1, h2, h3⟩ := h
 exact ⟨u, H', nx', hA.trans h1, h2, h3⟩
end
end Go.Proofs.YthjhonhhbddhkaaGreatDoor
/- Whether trees are the same. -/
namespace Go.Proofs.YthjhonhhbddhkaaGreatDoor
open Go.Ev Go.RowKit
noncomputable section
set_option maxRecDepth 100000
set_option linter.unusedVariables false
set_option linter.unusedSimpArgs false
variable {nx0 : Nat} {H0 : T OB}
def IsR (s : Nat) (l : List Value) (v : Value) : Prop := v = rowV s l \/ (l = [] /\ v = .slice none 0 0)
theorem IsR.row (s : Nat) (l : List Value) : IsR s l (rowV s l) := .inl rfl
theorem IsR.nil (s : Nat) : IsR s [] (.slice none 0 0) := .inr ⟨rfl, rfl⟩
theorem fr1_42 {l : List Value} {v : Value} (h : IsR 4 l v) (H : T OB) (nx : Nat) (k : Value -> T OB -> Nat -> Q) : frz1 P 42 v H nx k = k (rowV 4 l) H nx := by
 rcases h with rfl | ⟨rfl, rfl⟩ <;> kernel_rfl
theorem fr1_41 {l : List Value} {v : Value} (h : IsR 6 l v) (H : T OB) (nx : Nat) (k : Value -> T OB -> Nat -> Q) : frz1 P 41 v H nx k = k (rowV 6 l) H nx := by
 rcases h with rfl | ⟨rfl, rfl⟩ <;> kernel_rfl
theorem fr1_24 {l : List Value} {v : Value} (h : IsR 17 l v) (H : T OB) (nx : Nat) (k : Value -> T OB -> Nat -> Q) : frz1 P 24 v H nx k = k (rowV 17 l) H nx := by
 rcases h with rfl | ⟨rfl, rfl⟩ <;> kernel_rfl
theorem fr1_53 {l : List Value} {v : Value} (h : IsR 3 l v) (H : T OB) (nx : Nat) (k : Value -> T OB -> Nat -> Q) : frz1 P 53 v H nx k = k (rowV 3 l) H nx := by
 rcases h with rfl | ⟨rfl, rfl⟩ <;> kernel_rfl
theorem fr1_49 {l : List Value} {v : Value} (h : IsR 1 l v) (H : T OB) (nx : Nat) (k : Value -> T OB -> Nat -> Q) : frz1 P 49 v H nx k = k (rowV 1 l) H nx := by
 rcases h with rfl | ⟨rfl, rfl⟩ <;> kernel_rfl
theorem fr1_50 {l : List Value} {v : Value} (h : IsR 2 l v) (H : T OB) (nx : Nat) (k : Value -> T OB -> Nat -> Q) : frz1 P 50 v H nx k = k (rowV 2 l) H nx := by
 rcases h with rfl | ⟨rfl, rfl⟩ <;> kernel_rfl
def VPat (p : Pat) (v : Value) : Prop := ∃ d, v = .agg ⟨[i64 p.k, i64 p.n, txt p.s, d]⟩ /\ IsR 4 (p.l.map Pat.v) d
def VExp (e : Exp) (v : Value) : Prop := ∃ a b c, v = .agg ⟨[i64 e.k, i64 e.n, txt e.s, a, b, c]⟩ /\ IsR 6 (e.l.map Exp.v) a /\ IsR 4 (e.p.map Pat.v) b /\ IsR 17 (e.d.map Dec.v) c
def VCon (e : Con) (v : Value) : Prop := ∃ a, v = .agg ⟨[txt e.s, a]⟩ /\ IsR 3 (e.arg.map TyS.v) a
def VData (e : Data) (v : Value) : Prop := ∃ a b, v = .agg ⟨[a, txt e.s, b]⟩ /\ IsR 1 (e.vars.map txt) a /\ IsR 2 (e.cons.map Con.v) b
theorem Pat.vv (p : Pat) : VPat p p.v := ⟨_, p.v_eq, .row _ _⟩
theorem Exp.vv (p : Exp) : VExp p p.v := ⟨_, _, _, p.v_eq, .row _ _, .row _ _, .row _ _⟩
theorem Con.vv (p : Con) : VCon p p.v := ⟨_, p.v_eq, .row _ _⟩
theorem Data.vv (p : Data) : VData p p.v := ⟨_, _, p.v_eq, .row _ _, .row _ _⟩
theorem fr_47 (a b c d : Value) (H : T OB) (nx : Nat) (k : Value -> T OB -> Nat -> Q) : frzV P 47 (.agg ⟨[a, b, c, d]⟩) H nx k = frz1 P 42 d H nx fun d H nx => k (.agg ⟨[a, b, c, d]⟩) H nx := by kernel_rfl
theorem fr_44 (a b c d e f : Value) (H : T OB) (nx : Nat) (k : Value -> T OB -> Nat -> Q) : frzV P 44 (.agg ⟨[a, b, c, d, e, f]⟩) H nx k = frz1 P 41 d H nx fun d H nx => frz1 P 42 e H nx fun e H nx => frz1 P 24 f H nx fun f H nx => k (.agg ⟨[a, b, c, d, e, f]⟩) H nx := by kernel_rfl
theorem fr_55 (a b : Value) (H : T OB) (nx : Nat) (k : Value -> T OB -> Nat -> Q) : frzV P 55 (.agg ⟨[a, b]⟩) H nx k = frz1 P 53 b H nx fun b H nx => k (.agg ⟨[a, b]⟩) H nx := by kernel_rfl
theorem fr_52 (a b c : Value) (H : T OB) (nx : Nat) (k : Value -> T OB -> Nat -> Q) : frzV P 52 (.agg ⟨[a, b, c]⟩) H nx k = frz1 P 49 a H nx fun a H nx => frz1 P 50 c H nx fun c H nx => k (.agg ⟨[a, b, c]⟩) H nx := by kernel_rfl
theorem frPat {p : Pat} {v : Value} (h : VPat p v) (H : T OB) (nx : Nat) (k : Value -> T OB -> Nat -> Q) : frzV P 47 v H nx k = k p.v H nx := by
 obtain ⟨d, rfl, h⟩ := h
 rw [fr_47, fr1_42 h, p.v_eq]
theorem frExp {p : Exp} {v : Value} (h : VExp p v) (H : T OB) (nx : Nat) (k : Value -> T OB -> Nat -> Q) : frzV P 44 v H nx k = k p.v H nx := by
 obtain ⟨a, b, c, rfl, h1, h2, h3⟩ := h
 rw [fr_44, fr1_41 h1, fr1_42 h2, fr1_24 h3, p.v_eq]
theorem frCon {p : Con} {v : Value} (h : VCon p v) (H : T OB) (nx : Nat) (k : Value -> T OB -> Nat -> Q) : frzV P 55 v H nx k = k p.v H nx := by
 obtain ⟨d, rfl, h⟩ := h
 rw [fr_55, fr1_53 h, p.v_eq]
theorem frData {p : Data} {v : Value} (h : VData p v) (H : T OB) (nx : Nat) (k : Value -> T OB -> Nat -> Q) : frzV P 52 v H nx k = k p.v H nx := by
 obtain ⟨d, b, rfl, h, h2⟩ := h
 rw [fr_52, fr1_49 h, fr1_50 h2, p.v_eq]
def eqb {α : Type} (a b : α) : Bool := @decide (a = b) (Classical.propDecidable _)
theorem eqb_t {α : Type} {a b : α} (h : a = b) : eqb a b = true := by unfold eqb; simp [h]
theorem eqb_f {α : Type} {a b : α} (h : a ≠ b) : eqb a b = false := by unfold eqb; simp [h]
theorem eqb_iff {α : Type} {a b : α} : eqb a b = true ↔ a = b := by unfold eqb; simp
theorem eqb_self {α : Type} (a : α) : eqb a a = true := eqb_t rfl
theorem eqb_congr {α β : Type} {a b : α} {c d : β} (h : a = b ↔ c = d) : eqb a b = eqb c d := by
 rw [Bool.eq_iff_iff, eqb_iff, eqb_iff]; exact h
theorem txt_dec (a b : List UInt8) : decide ((⟨⟨a⟩⟩ : ByteArray) = ⟨⟨b⟩⟩) = decide (a = b) := by rw [decide_eq_decide]; simp
theorem Wq.nite {p : Prop} [Decidable p] {R : Value -> T OB -> Nat -> Prop} {x y : Q} (h : ¬p -> WqR P pl X0 x nx0 H0 R) (h' : p -> WqR P pl X0 y nx0 H0 R) : WqR P pl X0 (Ev.bK (!decide p) x y) nx0 H0 R :=
 Wq.bK (fun q => h (by simpa using q)) (fun q => h' (by simpa using q))
theorem Wq.zipI (I : T OB -> Nat -> Prop) {α : Type} (l m : List α) (hlm : l.length = m.length) (q : Nat -> T OB -> Nat -> Q) (r : Bool) (hend : ∀ H1 nx1, I H1 nx1 -> Ag nx0 H0 nx1 H1 -> Wq P pl X0 (q l.length H1 nx1) nx0 H0 (.bool r))
 (hstep : ∀ (i : Nat) (a b : α) (t u : List α) H1 nx1, l[i]? = some a -> m[i]? = some b -> i < l.length -> I H1 nx1 -> Ag nx0 H0 nx1 H1 -> (∀ H2 nx2, I H2 nx2 -> Ag nx0 H0 nx2 H2 -> Wq P pl X0 (q (i + 1) H2 nx2) nx0 H0 (.bool (eqb t u && r))) -> Wq P pl X0 (q i H1 nx1) nx0 H0 (.bool (eqb a b && (eqb t u && r)))) (H1 : T OB) (nx1 : Nat) (hI : I H1 nx1) (hA : Ag nx0 H0 nx1 H1) :
 Wq P pl X0 (q 0 H1 nx1) nx0 H0 (.bool (eqb l m && r)) := by
 have key : ∀ (t u : List α) (i : Nat), l.drop i = t -> m.drop i = u -> i <= l.length -> ∀ H1 nx1, I H1 nx1 -> Ag nx0 H0 nx1 H1 -> Wq P pl X0 (q i H1 nx1) nx0 H0 (.bool (eqb t u && r)) := by
  intro t
  induction t with
  | nil =>
    intro u i hd hu hi H1 nx1 hI hA
    have hil := drop_nil hd hi
    have : u = [] := by rw [<- hu, List.drop_of_length_le (by omega)]
    rw [this, eqb_self, Bool.true_and, hil]
    exact hend H1 nx1 hI hA
  | cons a t ih =>
    intro u i hd hu hi H1 nx1 hI hA
    obtain ⟨hg, hlt, hd'⟩ := drop_cons hd
    cases u with
    | nil =>
      have := drop_nil hu (by omega)
      omega
    | cons b u =>
      obtain ⟨hg2, hlt2, hd2⟩ := drop_cons hu
      have : eqb (a :: t) (b :: u) = (eqb a b && eqb t u) := by
       rw [Bool.eq_iff_iff]; simp [eqb_iff]
      rw [this, Bool.and_assoc]
      exact hstep i a b t u H1 nx1 hg hg2 hlt hI hA fun H2 nx2 h1 h2 => ih u (i + 1) hd' hd2 (by omega) H2 nx2 h1 h2
 have := key l m 0 rfl rfl (Nat.zero_le _) H1 nx1 hI hA
 exact this
theorem Wq.zip {α : Type} (l m : List α) (hlm : l.length = m.length) (q : Nat -> T OB -> Nat -> Q) (r : Bool) (hend : ∀ H1 nx1, Ag nx0 H0 nx1 H1 -> Wq P pl X0 (q l.length H1 nx1) nx0 H0 (.bool r))
 (hstep : ∀ (i : Nat) (a b : α) (t u : List α) H1 nx1, l[i]? = some a -> m[i]? = some b -> i < l.length -> Ag nx0 H0 nx1 H1 -> (∀ H2 nx2, Ag nx0 H0 nx2 H2 -> Wq P pl X0 (q (i + 1) H2 nx2) nx0 H0 (.bool (eqb t u && r))) -> Wq P pl X0 (q i H1 nx1) nx0 H0 (.bool (eqb a b && (eqb t u && r)))) (H1 : T OB) (nx1 : Nat) (hA : Ag nx0 H0 nx1 H1) :
 Wq P pl X0 (q 0 H1 nx1) nx0 H0 (.bool (eqb l m && r)) := by
 have key : ∀ (t u : List α) (i : Nat), l.drop i = t -> m.drop i = u -> i <= l.length -> ∀ H1 nx1, Ag nx0 H0 nx1 H1 -> Wq P pl X0 (q i H1 nx1) nx0 H0 (.bool (eqb t u && r)) := by
  intro t
  induction t with
  | nil =>
    intro u i hd hu hi H1 nx1 hA
    have hil := drop_nil hd hi
    have : u = [] := by rw [<- hu, List.drop_of_length_le (by omega)]
    rw [this, eqb_self, Bool.true_and, hil]
    exact hend H1 nx1 hA
  | cons a t ih =>
    intro u i hd hu hi H1 nx1 hA
    obtain ⟨hg, hlt, hd'⟩ := drop_cons hd
    cases u with
    | nil =>
      have := drop_nil hu (by omega)
      omega
    | cons b u =>
      obtain ⟨hg2, hlt2, hd2⟩ := drop_cons hu
      have : eqb (a :: t) (b :: u) = (eqb a b && eqb t u) := by
       rw [Bool.eq_iff_iff]; simp [eqb_iff]
      rw [this, Bool.and_assoc]
      exact hstep i a b t u H1 nx1 hg hg2 hlt hA fun H2 nx2 h2 => ih u (i + 1) hd' hd2 (by omega) H2 nx2 h2
 have := key l m 0 rfl rfl (Nat.zero_le _) H1 nx1 hA
 exact this
theorem pu_32 (l m : List Pat) (hl : l.length < big) (ih : ∀ a, a ∈ l -> ∀ b, P0 29 [a.v, b.v] (.bool (eqb a b))) : P0 32 [patsR l, patsR m] (.bool (eqb l m)) := Pure.of rfl fun H nx => by
 rw [q32]
 simp only [stpF, sttF, List.length_map]
 refine Wq.nite (fun h => ?_) (fun h => ?_)
 . exact Wq.retE (by rw [eqb_f (fun q => h (by rw [q]))]) (.refl _ _)
 have hlm : l.length = m.length := by omega
 have := Wq.zip (nx0 := nx) (H0 := H) l m hlm (fun i H nx => .jump (l32_11 (patsR l) (patsR m) (i64 (i : Int)) H nx)) true (fun H1 nx1 hA1 => ?_) (fun i a b t u H1 nx1 hg hg2 hlt hA1 ih' => ?_) H nx (.refl _ _)
 . rw [Bool.and_true] at this
   exact this
 . refine Wq.jmp (q32_11 ..) (fun _ => rfl) ?_
   simp only [stpF, sttF, List.length_map, not_lt_len]
   exact Wq.ret hA1
 . have hx : (l.map Pat.v)[i]? = some a.v := by simp [hg]
   have hx2 : (m.map Pat.v)[i]? = some b.v := by simp [hg2]
   refine Wq.jmp (q32_11 ..) (fun _ => rfl) ?_
   simp only [stpF, sttF, List.length_map, is_lt_len hlt, ix_42 hx, ix_42 hx2]
   refine Wq.call (ih a (List.mem_of_getElem? hg) b) hA1 fun H2 nx2 hA2 => ?_
   cases hE : eqb a b with
   | false => simp only [stpF, Bool.false_and]; exact Wq.ret hA2
   | true =>
     simp only [stpF, Bool.true_and, wrap_succ (show i < 9223372036854775807 by have := sm_lt hl; omega)]
     exact ih' _ _ hA2
theorem pu_29a (p q : Pat) (v : Value) (hv : VPat p v) (ih : P0 32 [patsR p.l, patsR q.l] (.bool (eqb p.l q.l))) : P0 29 [v, q.v] (.bool (eqb p q)) := Pure.of rfl fun H nx => by
 rw [q29, frPat hv]
 refine Wq.natF' (.refl _ _) fun hA => ?_
 refine Wq.natF' hA fun hA => ?_
 simp only [stpF, sttF, List.length_map, txt_dec]
 refine Wq.ite (fun h1 => ?_) (fun h1 => Wq.retE (by rw [eqb_f (fun h => h1 (by rw [h]))]) hA)
 refine Wq.ite (fun h2 => ?_) (fun h2 => Wq.retE (by rw [eqb_f (fun h => h2 (by rw [h]))]) hA)
 refine Wq.ite (fun h3 => ?_) (fun h3 => Wq.retE (by rw [eqb_f (fun h => h3 (by rw [h]))]) hA)
 refine Wq.call ih hA fun H2 nx2 hA2 => ?_
 refine Wq.retE ?_ hA2
 rw [eqb_congr]
 cases p; cases q
 simp only [Pat.k, Pat.n, Pat.s, Pat.l] at h1 h2 h3 ⊢
 simp [h1, h2, h3]
theorem pu_29 (p : Pat) (hp : p.ok) : ∀ (q : Pat) (v : Value), VPat p v -> P0 29 [v, q.v] (.bool (eqb p q)) := by
 refine Pat.ind (p := fun p => p.ok -> ∀ (q : Pat) (v : Value), VPat p v -> P0 29 [v, q.v] (.bool (eqb p q))) (fun p ih hp q v hv => ?_) p hp
 rw [Pat.ok_iff] at hp
 exact pu_29a p q v hv (pu_32 p.l q.l hp.2.2.1 fun a ha b => ih a ha (hp.2.2.2 a ha) b _ a.vv)
theorem pu_32' (l m : List Pat) (hl : l.length < big) (h : ∀ a, a ∈ l -> a.ok) : P0 32 [patsR l, patsR m] (.bool (eqb l m)) := pu_32 l m hl fun a ha b => pu_29 a (h a ha) b _ a.vv
theorem pu_53a (l m : List TyS) (hl : l.length < big) (ih : ∀ a, a ∈ l -> ∀ m', P0 53 [tysR a.l, tysR m'] (.bool (eqb a.l m'))) : P0 53 [tysR l, tysR m] (.bool (eqb l m)) := Pure.of rfl fun H nx => by
 rw [q53]
 simp only [stpF, sttF, List.length_map]
 refine Wq.nite (fun h => ?_) (fun h => ?_)
 . exact Wq.retE (by rw [eqb_f (fun q => h (by rw [q]))]) (.refl _ _)
 have hlm : l.length = m.length := by omega
 have := Wq.zip (nx0 := nx) (H0 := H) l m hlm (fun i H nx => .jump (l53_11 (tysR l) (tysR m) (i64 (i : Int)) H nx)) true (fun H1 nx1 hA1 => ?_) (fun i a b t u H1 nx1 hg hg2 hlt hA1 ih' => ?_) H nx (.refl _ _)
 . rw [Bool.and_true] at this
   exact this
 . refine Wq.jmp (q53_11 ..) (fun _ => rfl) ?_
   simp only [stpF, sttF, List.length_map, not_lt_len]
   exact Wq.ret hA1
 . have hx : (l.map TyS.v)[i]? = some a.v := by simp [hg]
   have hx2 : (m.map TyS.v)[i]? = some b.v := by simp [hg2]
   have L16 : ∀ (r : Bool) H2 nx2, Ag nx H nx2 H2 -> r = !eqb a b -> Wq P pl X0 (.jump (l53_16 (tysR l) (tysR m) (i64 (i : Int)) r H2 nx2)) nx H (.bool (eqb a b && (eqb t u && true))) := by
    intro r H2 nx2 hA2 hr
    refine Wq.jmp (q53_16 ..) (fun _ => rfl) ?_
    cases hE : eqb a b with
    | false => rw [hE] at hr; rw [hr]; exact Wq.ret hA2
    | true =>
      rw [hE] at hr; rw [hr]
      simp only [stpF, Bool.true_and, wrap_succ (show i < 9223372036854775807 by have := sm_lt hl; omega)]
      exact ih' _ _ hA2
   refine Wq.jmp (q53_11 ..) (fun _ => rfl) ?_
   simp only [stpF, sttF, List.length_map, is_lt_len hlt, ix_53 hx, ix_53 hx2, txt_dec]
   refine Wq.nite (fun h1 => L16 _ _ _ hA1 (by rw [eqb_f (fun h => h1 (by rw [h]))]; rfl)) (fun h1 => ?_)
   refine Wq.nite (fun h2 => L16 _ _ _ hA1 (by rw [eqb_f (fun h => h2 (by rw [h]))]; rfl)) (fun h2 => ?_)
   refine Wq.call (ih a (List.mem_of_getElem? hg) b.l) hA1 fun H2 nx2 hA2 => ?_
   simp only [stpF]
   refine L16 _ _ _ hA2 (congrArg _ (eqb_congr ?_))
   cases a; cases b
   simp only [TyS.k, TyS.s, TyS.l] at h1 h2 ⊢
   simp [h1, h2]
theorem pu_53t (a : TyS) (ha : a.ok) : ∀ m, P0 53 [tysR a.l, tysR m] (.bool (eqb a.l m)) := by
 refine TyS.ind (p := fun a => a.ok -> ∀ m, P0 53 [tysR a.l, tysR m] (.bool (eqb a.l m))) (fun p ih hp m => ?_) a ha
 rw [TyS.ok_iff] at hp
 exact pu_53a p.l m hp.2.1 fun a ha m' => ih a ha (hp.2.2 a ha) m'
theorem pu_53 (l m : List TyS) (hl : l.length < big) (h : ∀ a, a ∈ l -> a.ok) : P0 53 [tysR l, tysR m] (.bool (eqb l m)) := pu_53a l m hl fun a ha m' => pu_53t a (h a ha) m'
theorem pu_30 (p q : Con) (hp : p.ok) (v : Value) (hv : VCon p v) : P0 30 [v, q.v] (.bool (eqb p q)) := Pure.of rfl fun H nx => by
 rw [q30, frCon hv]
 refine Wq.natF' (.refl _ _) fun hA => ?_
 refine Wq.natF' hA fun hA => ?_
 simp only [stpF, sttF, List.length_map, txt_dec]
 refine Wq.ite (fun h1 => ?_) (fun h1 => Wq.retE (by rw [eqb_f (fun h => h1 (by rw [h]))]) hA)
 refine Wq.call (pu_53 p.arg q.arg hp.2.1 hp.2.2) hA fun H2 nx2 hA2 => ?_
 refine Wq.retE ?_ hA2
 rw [eqb_congr]
 cases p; cases q
 simp only at h1 ⊢
 simp [h1]
theorem pu_31 (p q : Data) (hp : p.ok) (v : Value) (hv : VData p v) : P0 31 [v, q.v] (.bool (eqb p q)) := Pure.of rfl fun H nx => by
 rw [q31, frData hv]
 refine Wq.natF' (.refl _ _) fun hA => ?_
 refine Wq.natF' hA fun hA => ?_
 have L6 : ∀ H1 nx1, Ag nx H nx1 H1 -> p ≠ q -> Wq P pl X0 (.jump (l31_6 (eptrV p.v) (eptrV q.v) true H1 nx1)) nx H (.bool (eqb p q)) := by
  intro H1 nx1 hA1 h
  refine Wq.jmp (q31_6 ..) (fun _ => rfl) ?_
  rw [eqb_f h]
  exact Wq.ret hA1
 simp only [stpF, sttF, List.length_map, txt_dec]
 refine Wq.nite (fun h1 => L6 _ _ hA fun h => h1 (by rw [h])) (fun h1 => ?_)
 refine Wq.nite (fun h2 => L6 _ _ hA fun h => h2 (by rw [h])) (fun h2 => ?_)
 refine Wq.jmp (q31_6 ..) (fun _ => rfl) ?_
 refine Wq.nite (fun h3 => ?_) (fun h3 => ?_)
 . rw [eqb_f fun h => h3 (by rw [h])]; exact Wq.ret hA
 have e0 : eqb p q = (eqb p.vars q.vars && (eqb p.cons q.cons && true)) := by
  rw [Bool.and_true, Bool.eq_iff_iff, Bool.and_eq_true, eqb_iff, eqb_iff, eqb_iff]
  cases p; cases q
  simp only at h1 ⊢
  simp [h1]
 rw [e0]
 refine Wq.zip (nx0 := nx) (H0 := H) p.vars q.vars (by omega) (fun i H nx => .jump (l31_11 (eptrV p.v) (eptrV q.v) (i64 (i : Int)) H nx)) _ (fun H1 nx1 hA1 => ?_) (fun i a b t u H1 nx1 hg hg2 hlt hA1 ih' => ?_) _ _ hA
 . refine Wq.jmp (q31_11 ..) (fun _ => rfl) ?_
   simp only [stpF, sttF, List.length_map, not_lt_len]
   refine Wq.zip (nx0 := nx) (H0 := H) p.cons q.cons (by omega) (fun i H nx => .jump (l31_21 (eptrV p.v) (eptrV q.v) (i64 (i : Int)) H nx)) _ (fun H1 nx1 hA1 => ?_) (fun i a b t u H1 nx1 hg hg2 hlt hA1 ih' => ?_) _ _ hA1
   . refine Wq.jmp (q31_21 ..) (fun _ => rfl) ?_
     simp only [stpF, sttF, List.length_map, not_lt_len]
     exact Wq.ret hA1
   . have hx : (p.cons.map Con.v)[i]? = some a.v := by simp [hg]
     have hx2 : (q.cons.map Con.v)[i]? = some b.v := by simp [hg2]
     refine Wq.jmp (q31_21 ..) (fun _ => rfl) ?_
     simp only [stpF, sttF, List.length_map, is_lt_len hlt, ix_50 hx, ix_50 hx2]
     refine Wq.call (pu_30 a b (hp.2.2.2 a (List.mem_of_getElem? hg)) _ a.vv) hA1 fun H2 nx2 hA2 => ?_
     cases hE : eqb a b with
     | false => simp only [stpF, Bool.false_and]; exact Wq.ret hA2
     | true =>
       simp only [stpF, Bool.true_and, wrap_succ (show i < 9223372036854775807 by have := sm_lt hp.2.2.1; omega)]
       exact ih' _ _ hA2
 . have hx : (p.vars.map txt)[i]? = some (txt a) := by simp [hg]
   have hx2 : (q.vars.map txt)[i]? = some (txt b) := by simp [hg2]
   refine Wq.jmp (q31_11 ..) (fun _ => rfl) ?_
   simp only [stpF, sttF, List.length_map, is_lt_len hlt, ix_49 hx, ix_49 hx2, txt_dec]
   refine Wq.nite (fun h => ?_) (fun h => ?_)
   . rw [eqb_f h]; exact Wq.ret hA1
   . rw [eqb_t h]
     simp only [stpF, Bool.true_and, wrap_succ (show i < 9223372036854775807 by have := sm_lt hp.1.1; omega)]
     exact ih' _ _ hA1
end
end Go.Proofs.YthjhonhhbddhkaaGreatDoor
/- Whether expressions and declarations are the same. -/
namespace Go.Proofs.YthjhonhhbddhkaaGreatDoor
open Go.Ev Go.RowKit
noncomputable section
set_option maxRecDepth 100000
set_option linter.unusedVariables false
set_option linter.unusedSimpArgs false
variable {nx0 : Nat} {H0 : T OB}
theorem pu_25a (e q : Exp) (he : e.ok) (v : Value) (hv : VExp e v) (h1 : ∀ a, a ∈ e.l -> ∀ b : Exp, P0 25 [a.v, b.v] (.bool (eqb a b))) (h2 : ∀ m, P0 14 [decsR e.d, decsR m] (.bool (eqb e.d m))) : P0 25 [v, q.v] (.bool (eqb e q)) := Pure.of rfl fun H nx => by
 rw [Exp.ok_iff] at he
 rw [q25, frExp hv]
 refine Wq.natF' (.refl _ _) fun hA => ?_
 refine Wq.natF' hA fun hA => ?_
 have L6 : ∀ H1 nx1, Ag nx H nx1 H1 -> e ≠ q -> Wq P pl X0 (.jump (l25_6 (eptrV e.v) (eptrV q.v) true H1 nx1)) nx H (.bool (eqb e q)) := by
  intro H1 nx1 hA1 h
  refine Wq.jmp (q25_6 ..) (fun _ => rfl) ?_
  rw [eqb_f h]
  exact Wq.ret hA1
 simp only [stpF, sttF, List.length_map, txt_dec]
 refine Wq.nite (fun g1 => L6 _ _ hA fun h => g1 (by rw [h])) (fun g1 => ?_)
 refine Wq.nite (fun g2 => L6 _ _ hA fun h => g2 (by rw [h])) (fun g2 => ?_)
 refine Wq.nite (fun g3 => L6 _ _ hA fun h => g3 (by rw [h])) (fun g3 => ?_)
 refine Wq.nite (fun g4 => L6 _ _ hA fun h => g4 (by rw [h])) (fun g4 => ?_)
 refine Wq.call (pu_32' e.p q.p he.2.2.2.1.1 he.2.2.2.1.2) hA fun H1 nx1 hA1 => ?_
 cases g5 : eqb e.p q.p with
 | false =>
   simp only [stpF]
   exact L6 _ _ hA1 fun h => by rw [h, eqb_self] at g5; cases g5
 | true =>
   simp only [stpF]
   refine Wq.call (h2 q.d) hA1 fun H2 nx2 hA2 => ?_
   cases g6 : eqb e.d q.d with
   | false =>
     simp only [stpF]
     exact L6 _ _ hA2 fun h => by rw [h, eqb_self] at g6; cases g6
   | true =>
     simp only [stpF]
     refine Wq.jmp (q25_6 ..) (fun _ => rfl) ?_
     have e0 : eqb e q = (eqb e.l q.l && true) := by
      rw [Bool.and_true, eqb_congr]
      rw [eqb_iff] at g5 g6
      cases e; cases q
      simp only [Exp.k, Exp.n, Exp.s, Exp.p, Exp.d, Exp.l] at g1 g2 g3 g5 g6 ⊢
      simp [g1, g2, g3, g5, g6]
     rw [e0]
     refine Wq.zip (nx0 := nx) (H0 := H) e.l q.l (by omega) (fun i H nx => .jump (l25_11 (eptrV e.v) (eptrV q.v) (i64 (i : Int)) H nx)) _ (fun H1 nx1 hA1 => ?_) (fun i a b t u H1 nx1 hg hg2 hlt hA1 ih' => ?_) _ _ hA2
     . refine Wq.jmp (q25_11 ..) (fun _ => rfl) ?_
       simp only [stpF, sttF, List.length_map, not_lt_len]
       exact Wq.ret hA1
     . have hx : (e.l.map Exp.v)[i]? = some a.v := by simp [hg]
       have hx2 : (q.l.map Exp.v)[i]? = some b.v := by simp [hg2]
       refine Wq.jmp (q25_11 ..) (fun _ => rfl) ?_
       simp only [stpF, sttF, List.length_map, is_lt_len hlt, ix_41 hx, ix_41 hx2]
       refine Wq.call (h1 a (List.mem_of_getElem? hg) b) hA1 fun H2 nx2 hA2 => ?_
       cases hE : eqb a b with
       | false => simp only [stpF, Bool.false_and]; exact Wq.ret hA2
       | true =>
         simp only [stpF, Bool.true_and, wrap_succ (show i < 9223372036854775807 by have := sm_lt he.2.2.1.1; omega)]
         exact ih' _ _ hA2
def VDec (d : Dec) (v : Value) : Prop := ∃ a1 a2 a3 a4 a5 a6 a7 a8, v = .agg ⟨[i64 d.k, i64 d.p.k, i64 d.p.n, txt d.p.s, a1, i64 d.e.k, i64 d.e.n, txt d.e.s, a2, a3, a4, a5, a6, txt d.x.s, a7, txt d.c.s, a8]⟩ /\
 IsR 4 (d.p.l.map Pat.v) a1 /\ IsR 6 (d.e.l.map Exp.v) a2 /\ IsR 4 (d.e.p.map Pat.v) a3 /\ IsR 17 (d.e.d.map Dec.v) a4 /\ IsR 8 (d.f.map Fn.v) a5 /\ IsR 1 (d.x.vars.map txt) a6 /\ IsR 2 (d.x.cons.map Con.v) a7 /\ IsR 3 (d.c.arg.map TyS.v) a8
theorem Dec.vv (d : Dec) : VDec d d.v := ⟨_, _, _, _, _, _, _, _, d.v_eq, .row _ _, .row _ _, .row _ _, .row _ _, .row _ _, .row _ _, .row _ _, .row _ _⟩
theorem DB_of {H : T OB} {b : Nat} {c0 c1 c2 c3 c4 c5 c6 c7 c8 c9 c10 c11 c12 c13 c14 c15 c16 : Value} (h : IsB H b [c0, c1, c2, c3, c4, c5, c6, c7, c8, c9, c10, c11, c12, c13, c14, c15, c16] 57) :
 rdLoad P H 3 (some (.pointer (some ⟨b, 0, none⟩))) = some c0 /\ rdLoad P H 47 (some (.pointer (some ⟨b, 1, none⟩))) = some (.agg ⟨[c1, c2, c3, c4]⟩) /\ rdLoad P H 44 (some (.pointer (some ⟨b, 5, none⟩))) = some (.agg ⟨[c5, c6, c7, c8, c9, c10]⟩) /\
 rdLoad P H 48 (some (.pointer (some ⟨b, 11, none⟩))) = some c11 /\ rdLoad P H 52 (some (.pointer (some ⟨b, 12, none⟩))) = some (.agg ⟨[c12, c13, c14]⟩) /\ rdLoad P H 55 (some (.pointer (some ⟨b, 15, none⟩))) = some (.agg ⟨[c15, c16]⟩) :=
 ⟨rdLoad_cell h agg_3 rfl, rdLoad_agg h agg_47 sz_47 (by simp), rdLoad_agg h agg_44 sz_44 (by simp), rdLoad_cell h agg_48 rfl, rdLoad_agg h agg_52 sz_52 (by simp), rdLoad_agg h agg_55 sz_55 (by simp)⟩
theorem SB_of {H : T OB} {b : Nat} {d : Dec} (h : IsB H b d.cs 57) :
 rdLoad P H 3 (some (.pointer (some ⟨b, 0, none⟩))) = some (i64 d.k) /\ rdLoad P H 47 (some (.pointer (some ⟨b, 1, none⟩))) = some d.p.v /\ rdLoad P H 44 (some (.pointer (some ⟨b, 5, none⟩))) = some d.e.v /\
 rdLoad P H 48 (some (.pointer (some ⟨b, 11, none⟩))) = some (fnsR d.f) /\ rdLoad P H 52 (some (.pointer (some ⟨b, 12, none⟩))) = some d.x.v /\ rdLoad P H 55 (some (.pointer (some ⟨b, 15, none⟩))) = some d.c.v := by
 rw [Dec.cs_eq] at h
 have := DB_of h
 rw [Pat.v_eq, Exp.v_eq]
 exact this
theorem FB_of {H : T OB} {b : Nat} {f : Fn} (h : IsB H b f.cs 65) : rdLoad P H 9 (some (.pointer (some ⟨b, 0, none⟩))) = some (txt f.s) /\ rdLoad P H 42 (some (.pointer (some ⟨b, 1, none⟩))) = some (patsR f.p) /\ rdLoad P H 44 (some (.pointer (some ⟨b, 2, none⟩))) = some f.b.v := by
 rw [Fn.cs_eq] at h
 rw [Exp.v_eq]
 exact ⟨rdLoad_cell h agg_9 rfl, rdLoad_cell h agg_42 rfl, rdLoad_agg h agg_44 sz_44 (by simp)⟩
theorem lVDec {d : Dec} {v : Value} (h : VDec d v) (H : T OB) : rdLoad P H 57 (some (eptrV v)) = some v /\ v.cells.toList.length = 17 /\ v.cells.toList.all oneCell = true := by
 obtain ⟨a1, a2, a3, a4, a5, a6, a7, a8, rfl, h1, h2, h3, h4, h5, h6, h7, h8⟩ := h
 refine ⟨by kernel_rfl, rfl, ?_⟩
 have key : ∀ s l x, IsR s l x -> oneCell x = true := fun s l x h => by rcases h with rfl | ⟨_, rfl⟩ <;> rfl
 simp [Value.cells, key _ _ _ h1, key _ _ _ h2, key _ _ _ h3, key _ _ _ h4, key _ _ _ h5, key _ _ _ h6, key _ _ _ h7, key _ _ _ h8]
theorem fn_len {l : List Value} {v : Value} (h : IsR 8 l v) : rdLen P #[48] 3 (some [v]) = some (i64 (l.length : Int)) := by
 rcases h with rfl | ⟨rfl, rfl⟩
 . exact len_48 _ _ _
 . exact lenN_48 _
theorem Dec_eqb (d q : Dec) : eqb d q = (decide (d.k = q.k) && (eqb d.p q.p && (eqb d.e q.e && (eqb d.c q.c && (eqb d.x q.x && eqb d.f q.f))))) := by
 rw [Bool.eq_iff_iff]
 simp only [Bool.and_eq_true, eqb_iff, decide_eq_true_eq]
 cases d; cases q
 simp only [Dec.k, Dec.p, Dec.e, Dec.c, Dec.x, Dec.f, Dec.mk.injEq]
 exact ⟨fun ⟨a, b, c, d, e, f⟩ => ⟨a, b, c, f, e, d⟩, fun ⟨a, b, c, d, e, f⟩ => ⟨a, b, c, f, e, d⟩⟩
theorem Fn_eqb (d q : Fn) : eqb d q = (decide (d.s = q.s) && (eqb d.p q.p && eqb d.b q.b)) := by
 rw [Bool.eq_iff_iff]
 simp only [Bool.and_eq_true, eqb_iff, decide_eq_true_eq]
 cases d; cases q
 simp only [Fn.s, Fn.p, Fn.b, Fn.mk.injEq]
theorem w_14 (l m : List Dec) (vs : List Value) (hl : l.length < big) (hok : ∀ d, d ∈ l -> d.ok) (hn : vs.length = l.length) (hvs : ∀ (i : Nat) d v, l[i]? = some d -> vs[i]? = some v -> VDec d v)
 (hE : ∀ d, d ∈ l -> ∀ v, VExp d.e v -> ∀ q : Exp, P0 25 [v, q.v] (.bool (eqb d.e q))) (hF : ∀ d, d ∈ l -> ∀ f, f ∈ d.f -> ∀ q : Exp, P0 25 [f.b.v, q.v] (.bool (eqb f.b q))) (hlm : l.length = m.length) (H1 : T OB) (nx1 : Nat) (hA : Ag nx0 H0 nx1 H1) :
 Wq P pl X0 (.jump (l14_11 (rowV 17 vs) (decsR m) (i64 ((0 : Nat) : Int)) H1 nx1)) nx0 H0 (.bool (eqb l m)) := by
 have := Wq.zip l m hlm (fun i H nx => .jump (l14_11 (rowV 17 vs) (decsR m) (i64 (i : Int)) H nx)) true (fun H1 nx1 hA1 => ?_) (fun i d q t u H1 nx1 hg hg2 hlt hA1 ih' => ?_) H1 nx1 hA
 . rw [Bool.and_true] at this
   exact this
 . refine Wq.jmp (q14_11 ..) (fun _ => rfl) ?_
   simp only [stpF, sttF, List.length_map, hn, not_lt_len]
   exact Wq.ret hA1
 have hx : vs[i]? = some (vs[i]'(by omega)) := List.getElem?_eq_getElem _
 generalize hv0 : vs[i]'(by omega) = v at hx
 have hv := hvs i d v hg hx
 have hx2 : (m.map Dec.v)[i]? = some q.v := by simp [hg2]
 have hd := List.mem_of_getElem? hg
 have ok := (Dec.ok_iff d).1 (hok d hd)
 refine Wq.jmp (q14_11 ..) (fun _ => rfl) ?_
 obtain ⟨l1, l2, l3⟩ := lVDec hv H1
 simp only [stpF, sttF, List.length_map, hn, is_lt_len hlt, ix_24 hx, ix_24 hx2, l1]
 refine Wq.alloc zero_57 hA1 fun H2 hb2 _ hA2 => ?_
 refine Wq.alloc zero_57 hA2 fun H3 hb3 k3 hA3 => ?_
 refine Wq.store (k3 _ _ _ (by omega) hb2) sz_57 (by simp) l2 l3 hA3 (by have := hA1.1; omega) fun H4 hb4 k4 hA4 => ?_
 simp only [stpF, l1, (lVDec hv H4).1, lDec]
 refine Wq.store (k4 _ _ _ (by omega) hb3) sz_57 (by simp) (nDec q) (oDec q) hA4 (by have := hA1.1; omega) fun H5 hb5 k5 hA5 => ?_
 have hb1 : IsB H5 nx1 v.cells.toList 57 := by
  have := k5 _ _ _ (by omega) hb4
  obtain ⟨a1, a2, a3, a4, a5, a6, a7, a8, rfl, _⟩ := hv
  exact this
 have hb2 : IsB H5 (nx1 + 1) q.cs 57 := by
  rw [Dec.v_eq] at hb5
  rw [Dec.cs_eq]
  exact hb5
 clear hb5 hb4 hb3 k3 k4 k5
 obtain ⟨a1, a2, a3, a4, a5, a6, a7, a8, rfl, i1, i2, i3, i4, i5, i6, i7, i8⟩ := hv
 have D := fun H' (h : IsB H' nx1 (Value.agg ⟨[i64 d.k, i64 d.p.k, i64 d.p.n, txt d.p.s, a1, i64 d.e.k, i64 d.e.n, txt d.e.s, a2, a3, a4, a5, a6, txt d.x.s, a7, txt d.c.s, a8]⟩).cells.toList 57) => DB_of (H := H') h
 have L18 : ∀ H' nx', Ag nx0 H0 nx' H' -> eqb d q = false -> Wq P pl X0 (.jump (l14_18 (rowV 17 vs) (decsR m) (i64 (i : Int)) (.pointer (some ⟨nx1, 0, none⟩)) (.pointer (some ⟨nx1 + 1, 0, none⟩)) true H' nx')) nx0 H0 (.bool (eqb d q && (eqb t u && true))) := by
  intro H' nx' hA' h
  refine Wq.jmp (q14_18 ..) (fun _ => rfl) ?_
  rw [h]
  exact Wq.ret hA'
 rw [Dec_eqb] at L18 ⊢
 simp only [stpF, fp_57_0, fp_57_1, fp_57_2, fp_57_3, fp_57_4, fp_57_5, (D _ hb1).1, (SB_of hb2).1]
 refine Wq.nite (fun g1 => L18 _ _ hA5 (by simp [g1])) (fun g1 => ?_)
 rw [show decide (d.k = q.k) = true by simp [g1], Bool.true_and] at L18 ⊢
 simp only [stpF, (D _ hb1).2.1, (SB_of hb2).2.1]
 refine Wq.callB (pu_29 d.p ok.1 q.p _ ⟨a1, rfl, i1⟩) hA5 fun H6 nx6 hA6 n6 k6 => ?_
 replace hb1 := k6 _ _ _ (by omega) hb1
 replace hb2 := k6 _ _ _ (by omega) hb2
 cases g2 : eqb d.p q.p with
 | false => rw [g2] at L18; simp only [stpF]; exact L18 _ _ hA6 rfl
 | true =>
 rw [g2, Bool.true_and] at L18
 rw [Bool.true_and]
 simp only [stpF, (D _ hb1).2.2.1, (SB_of hb2).2.2.1]
 refine Wq.callB (hE d hd _ ⟨a2, a3, a4, rfl, i2, i3, i4⟩ q.e) hA6 fun H7 nx7 hA7 n7 k7 => ?_
 replace hb1 := k7 _ _ _ (by omega) hb1
 replace hb2 := k7 _ _ _ (by omega) hb2
 cases g3 : eqb d.e q.e with
 | false => rw [g3] at L18; simp only [stpF]; exact L18 _ _ hA7 rfl
 | true =>
 rw [g3, Bool.true_and] at L18
 rw [Bool.true_and]
 simp only [stpF, (D _ hb1).2.2.2.1, (SB_of hb2).2.2.2.1, fn_len i5, len_48, List.length_map]
 refine Wq.nite (fun g4 => L18 _ _ hA7 (by rw [show eqb d.f q.f = false from eqb_f fun h => g4 (by rw [h])]; simp)) (fun g4 => ?_)
 have hfl : d.f.length = q.f.length := by omega
 simp only [stpF, (D _ hb1).2.2.2.2.2, (SB_of hb2).2.2.2.2.2]
 refine Wq.callB (pu_30 d.c q.c ok.2.2.2.2 _ ⟨a8, rfl, i8⟩) hA7 fun H8 nx8 hA8 n8 k8 => ?_
 replace hb1 := k8 _ _ _ (by omega) hb1
 replace hb2 := k8 _ _ _ (by omega) hb2
 cases g5 : eqb d.c q.c with
 | false => rw [g5] at L18; simp only [stpF]; exact L18 _ _ hA8 rfl
 | true =>
 rw [g5, Bool.true_and] at L18
 rw [Bool.true_and]
 simp only [stpF, (D _ hb1).2.2.2.2.1, (SB_of hb2).2.2.2.2.1]
 refine Wq.callB (pu_31 d.x q.x ok.2.2.2.1 _ ⟨a6, a7, rfl, i6, i7⟩) hA8 fun H9 nx9 hA9 n9 k9 => ?_
 replace hb1 := k9 _ _ _ (by omega) hb1
 replace hb2 := k9 _ _ _ (by omega) hb2
 cases g6 : eqb d.x q.x with
 | false => rw [g6] at L18; simp only [stpF]; exact L18 _ _ hA9 rfl
 | true =>
 rw [Bool.true_and]
 simp only [stpF]
 refine Wq.jmp (q14_18 ..) (fun _ => rfl) ?_
 have hn1 : nx0 <= nx1 := hA1.1
 have hn9 : nx1 + 2 <= nx9 := by omega
 clear L18 g1 g2 g3 g4 g5 g6 n6 n7 n8 n9 k6 k7 k8 k9 hA5 hA6 hA7 hA8 hA4 hA3 hA2
 refine Wq.zipI (fun H nx => (IsB H nx1 (Value.agg ⟨[i64 d.k, i64 d.p.k, i64 d.p.n, txt d.p.s, a1, i64 d.e.k, i64 d.e.n, txt d.e.s, a2, a3, a4, a5, a6, txt d.x.s, a7, txt d.c.s, a8]⟩).cells.toList 57 /\ IsB H (nx1 + 1) q.cs 57) /\ nx1 + 2 <= nx) d.f q.f hfl (fun j H nx => .jump (l14_23 (rowV 17 vs) (decsR m) (i64 (i : Int)) (.pointer (some ⟨nx1, 0, none⟩)) (.pointer (some ⟨nx1 + 1, 0, none⟩)) (i64 (j : Int)) H nx)) _ (fun Hz nz hI hB1 => ?_) (fun j a b t' u' Hz nz kg kg2 klt hI hB1 jh => ?_) _ _ ⟨⟨hb1, hb2⟩, hn9⟩ hA9
 . refine Wq.jmp (q14_23 ..) (fun _ => rfl) ?_
   simp only [stpF, fp_57_3, (D _ hI.1.1).2.2.2.1, fn_len i5, List.length_map, not_lt_len, wrap_succ (show i < 9223372036854775807 by have := sm_lt hl; omega)]
   exact ih' _ _ hB1
 have jx : (d.f.map Fn.v)[j]? = some a.v := by simp [kg]
 have jx2 : (q.f.map Fn.v)[j]? = some b.v := by simp [kg2]
 have ha := List.mem_of_getElem? kg
 have e5 : a5 = fnsR d.f := by
  rcases i5 with h | ⟨h, _⟩
  . exact h
  . rw [h] at jx; cases jx
 subst e5
 have oka := (Fn.ok_iff a).1 (ok.2.2.1.2 a ha)
 obtain ⟨⟨hb1, hb2⟩, hn2⟩ := hI
 refine Wq.jmp (q14_23 ..) (fun _ => rfl) ?_
 simp only [stpF, sttF, List.length_map, fp_57_3, (D _ hb1).2.2.2.1, (SB_of hb2).2.2.2.1, is_lt_len klt, ix_48 jx, ix_48 jx2]
 refine Wq.alloc zero_65 hB1 fun H2 hc1 s2 hB2 => ?_
 refine Wq.alloc zero_65 hB2 fun H3 hc2 s3 hB3 => ?_
 replace hb1 := s3 _ _ _ (by omega) (s2 _ _ _ (by omega) hb1)
 replace hb2 := s3 _ _ _ (by omega) (s2 _ _ _ (by omega) hb2)
 refine Wq.store (s3 _ _ _ (by omega) hc1) sz_65 (by simp) (nFn a) (oFn a) hB3 (by have := hB1.1; omega) fun H4 hc1 s4 hB4 => ?_
 replace hb1 := s4 _ _ _ (by omega) hb1
 replace hb2 := s4 _ _ _ (by omega) hb2
 simp only [stpF, lFn, (SB_of hb2).2.2.2.1]
 refine Wq.store (s4 _ _ _ (by omega) hc2) sz_65 (by simp) (nFn b) (oFn b) hB4 (by have := hB1.1; omega) fun H5 hc2 s5 hB5 => ?_
 replace hb1 := s5 _ _ _ (by omega) hb1
 replace hb2 := s5 _ _ _ (by omega) hb2
 replace hc1 : IsB H5 nz a.cs 65 := by
  have := s5 _ _ _ (by omega) hc1
  rw [Fn.v_eq] at this
  rw [Fn.cs_eq]
  exact this
 replace hc2 : IsB H5 (nz + 1) b.cs 65 := by
  rw [Fn.v_eq] at hc2
  rw [Fn.cs_eq]
  exact hc2
 clear s2 s3 s4 s5 hB2 hB3 hB4
 have M30 : ∀ (r : Bool) H' nx', nz <= nx' -> r = eqb a b -> IsB H' nx1 (Value.agg ⟨[i64 d.k, i64 d.p.k, i64 d.p.n, txt d.p.s, a1, i64 d.e.k, i64 d.e.n, txt d.e.s, a2, a3, a4, fnsR d.f, a6, txt d.x.s, a7, txt d.c.s, a8]⟩).cells.toList 57 -> IsB H' (nx1 + 1) q.cs 57 -> Ag nx0 H0 nx' H' -> Wq P pl X0 (.jump (l14_30 (rowV 17 vs) (decsR m) (i64 (i : Int)) (.pointer (some ⟨nx1, 0, none⟩)) (.pointer (some ⟨nx1 + 1, 0, none⟩)) (i64 (j : Int)) (!r) H' nx')) nx0 H0 (.bool (eqb a b && (eqb t' u' && (eqb t u && true)))) := by
  intro r H' nx' hn hr g1 g2 hA'
  refine Wq.jmp (q14_30 ..) (fun _ => rfl) ?_
  rw [<- hr]
  cases r with
  | false => exact Wq.ret hA'
  | true =>
    simp only [stpF, Bool.true_and, wrap_succ (show j < 9223372036854775807 by have := sm_lt ok.2.2.1.1; omega)]
    exact jh _ _ ⟨⟨g1, g2⟩, by omega⟩ hA'
 have hz := Fn_eqb a b
 simp only [stpF, fp_65_0, fp_65_1, fp_65_2, (FB_of hc1).1, (FB_of hc2).1, txt_dec]
 refine Wq.nite (fun g1 => M30 false _ _ (by omega) (by rw [hz]; simp [g1]) hb1 hb2 hB5) (fun g1 => ?_)
 simp only [stpF, (FB_of hc1).2.1, (FB_of hc2).2.1]
 refine Wq.callB (pu_32' a.p b.p oka.2.1.1 oka.2.1.2) hB5 fun H6 nx6 hB6 n6 k6 => ?_
 replace hb1 := k6 _ _ _ (by omega) hb1
 replace hb2 := k6 _ _ _ (by omega) hb2
 replace hc1 := k6 _ _ _ (by omega) hc1
 replace hc2 := k6 _ _ _ (by omega) hc2
 cases g2 : eqb a.p b.p with
 | false => simp only [stpF]; exact M30 false _ _ (by omega) (by rw [hz]; simp [g2]) hb1 hb2 hB6
 | true =>
 simp only [stpF, (FB_of hc1).2.2, (FB_of hc2).2.2]
 refine Wq.callB (hF d hd a ha b.b) hB6 fun H7 nx7 hB7 n7 k7 => ?_
 replace hb1 := k7 _ _ _ (by omega) hb1
 replace hb2 := k7 _ _ _ (by omega) hb2
 simp only [stpF]
 exact M30 _ _ _ (by omega) (by rw [hz]; simp [g1, g2]) hb1 hb2 hB7
theorem frR_24 (es : List Value) (H : T OB) (nx : Nat) (k : Value -> T OB -> Nat -> Q) : frzV P 24 (rowV 17 es) H nx k = k (rowV 17 es) H nx := by kernel_rfl
theorem pu_14 (l m : List Dec) (hl : l.length < big) (hok : ∀ d, d ∈ l -> d.ok) (hE : ∀ d, d ∈ l -> ∀ v, VExp d.e v -> ∀ q : Exp, P0 25 [v, q.v] (.bool (eqb d.e q))) (hF : ∀ d, d ∈ l -> ∀ f, f ∈ d.f -> ∀ q : Exp, P0 25 [f.b.v, q.v] (.bool (eqb f.b q))) : P0 14 [decsR l, decsR m] (.bool (eqb l m)) := Pure.of rfl fun H nx => by
 rw [q14, frR_24, frR_24]
 simp only [stpF, sttF, List.length_map]
 refine Wq.nite (fun h => ?_) (fun h => ?_)
 . exact Wq.retE (by rw [eqb_f (fun q => h (by rw [q]))]) (.refl _ _)
 exact w_14 l m _ hl hok (by simp) (fun i d v h1 h2 => by
  rw [List.getElem?_map, h1] at h2
  cases h2
  exact d.vv) hE hF (by omega) _ _ (.refl _ _)
def Same25 (e : Exp) : Prop := ∀ (q : Exp) (v : Value), VExp e v -> P0 25 [v, q.v] (.bool (eqb e q))
theorem both_25 : (∀ e : Exp, e.ok -> Same25 e) /\ ∀ d : Dec, d.ok -> Same25 d.e /\ ∀ f, f ∈ d.f -> Same25 f.b := by
 have A : ∀ e : Exp, (∀ c, c ∈ e.l -> c.ok -> Same25 c) -> (∀ d, d ∈ e.d -> d.ok -> Same25 d.e /\ ∀ f, f ∈ d.f -> Same25 f.b) -> e.ok -> Same25 e := fun e h1 h2 h q v hv => by
  have h' := (Exp.ok_iff e).1 h
  exact pu_25a e q h v hv (fun a ha b => h1 a ha (h'.2.2.1.2 a ha) b _ a.vv) fun m => pu_14 e.d m h'.2.2.2.2.1 h'.2.2.2.2.2 (fun d hd v hv q => (h2 d hd (h'.2.2.2.2.2 d hd)).1 q v hv) fun d hd f hf q => (h2 d hd (h'.2.2.2.2.2 d hd)).2 f hf q _ f.b.vv
 have B : ∀ d : Dec, (d.e.ok -> Same25 d.e) -> (∀ f, f ∈ d.f -> f.b.ok -> Same25 f.b) -> d.ok -> Same25 d.e /\ ∀ f, f ∈ d.f -> Same25 f.b := fun d h1 h2 h => by
  have h' := (Dec.ok_iff d).1 h
  exact ⟨h1 h'.2.1, fun f hf => h2 f hf ((Fn.ok_iff f).1 (h'.2.2.1.2 f hf)).2.2⟩
 exact ⟨Exp.ind A B, Dec.ind A B⟩
theorem frS_24 {b : Nat} {cs : List Value} {H : T OB} {nx : Nat} {R : Value -> T OB -> Nat -> Prop} {k : Value -> T OB -> Nat -> Q} (hb : IsB H b cs 57) (hl : cs.length = 17) (h : Ag nx0 H0 nx H) (hbn : nx0 <= b)
 (hk : ∀ H', (∀ c l e, c ≠ b -> IsB H c l e -> IsB H' c l e) -> Ag nx0 H0 (nx + 1) H' -> WqR P pl X0 (k (rowV 17 [.agg ⟨cs⟩]) H' (nx + 1)) nx0 H0 R) : WqR P pl X0 (frzV P 24 (.slice (some ⟨b, 0, none⟩) 1 1) H nx k) nx0 H0 R := by
 refine Wq.frz und_24 sz_57 agg_57 rfl hb (by omega) (by rw [Nat.ble_eq_true_of_le (Nat.le_refl _), Bool.or_true]) ?_ (by simp [Ev.bK]) h hbn hk
 have := chunk_aggs 17 [cs] (by simp [hl])
 simpa using this
theorem w_14h (d q : Dec) (hd : d.ok) (v : Value) (hv : VDec d v) (b1 b2 : Nat) (hne : b1 ≠ b2) (H : T OB) (nx : Nat) (h1 : IsB H b1 v.cells.toList 57) (h2 : IsB H b2 q.cs 57) (n1 : nx0 <= b1) (n2 : nx0 <= b2) (hA : Ag nx0 H0 nx H) :
 Wq P pl X0 (evT P pl (.call 14 [.slice (some ⟨b1, 0, none⟩) 1 1, .slice (some ⟨b2, 0, none⟩) 1 1] false none H nx)) nx0 H0 (.bool (eqb d q)) := by
 have e0 : eqb d q = eqb [d] [q] := eqb_congr (by simp)
 have hv17 := (lVDec hv H).2.1
 rw [q14, e0]
 refine frS_24 h1 hv17 hA n1 fun H1 k1 hA1 => ?_
 refine frS_24 (k1 _ _ _ (fun q => hne q.symm) h2) (by rw [Dec.cs_eq]; rfl) hA1 n2 fun H2 k2 hA2 => ?_
 simp only [stpF, len_24, List.length_cons, Int.reduceEq, decide_true, Bool.not_true]
 have ev : (Value.agg ⟨v.cells.toList⟩) = v := by
  obtain ⟨a1, a2, a3, a4, a5, a6, a7, a8, rfl, _⟩ := hv
  rfl
 rw [ev]
 have hb := both_25.2 d hd
 exact w_14 [d] [q] [v] (show 1 < big by decide) (fun c hc => by rw [List.mem_singleton.1 hc]; exact hd) rfl (fun i c w h3 h4 => by
  cases i with
  | zero => cases h3; cases h4; exact hv
  | succ i => cases h3) (fun c hc w hw q => by rw [List.mem_singleton.1 hc] at hw ⊢; exact hb.1 q w hw) (fun c hc f hf q => by rw [List.mem_singleton.1 hc] at hf; exact hb.2 f hf q _ f.b.vv) rfl _ _ hA2
end
end Go.Proofs.YthjhonhhbddhkaaGreatDoor
/- The document: which texts are words. -/
namespace Go.Proofs.YthjhonhhbddhkaaGreatDoor
open Go.Ev Go.RowKit
noncomputable section
set_option maxRecDepth 100000
set_option linter.unusedVariables false
set_option linter.unusedSimpArgs false
variable {nx0 : Nat} {H0 : T OB}
theorem pu_144 (c : UInt8) (lo hi : Nat) : P0 144 [b8 c, .int .u8 (lo : Int), .int .u8 (hi : Int)] (.bool (decide (lo <= c.toNat) && decide (c.toNat <= hi))) := Pure.of rfl fun H nx => by
 rw [q144]
 simp only [stpF]
 have e1 : decide ((lo : Int) <= (c.toNat : Int)) = decide (lo <= c.toNat) := by rw [decide_eq_decide]; omega
 have e2 : decide ((c.toNat : Int) <= (hi : Int)) = decide (c.toNat <= hi) := by rw [decide_eq_decide]; omega
 rw [e1]
 refine Wq.bK (fun h => ?_) (fun h => ?_)
 . rw [h, Bool.true_and, <- e2]; exact Wq.ret (.refl _ _)
 . rw [h, Bool.false_and]; exact Wq.ret (.refl _ _)
theorem pu_low (c : UInt8) : P0 144 [b8 c, .int .u8 97, .int .u8 122] (.bool (isLow c)) := pu_144 c 97 122
theorem pu_high (c : UInt8) : P0 144 [b8 c, .int .u8 65, .int .u8 90] (.bool (isHigh c)) := pu_144 c 65 90
theorem pu_dig (c : UInt8) : P0 144 [b8 c, .int .u8 48, .int .u8 57] (.bool (isDig c)) := pu_144 c 48 57
theorem dec39 (c : UInt8) : decide ((c.toNat : Int) = 39) = decide (c.toNat = 39) := by rw [decide_eq_decide]; omega
theorem dec95 (c : UInt8) : decide ((c.toNat : Int) = 95) = decide (c.toNat = 95) := by rw [decide_eq_decide]; omega
theorem pu_156 (c : UInt8) : P0 156 [b8 c] (.bool (inW c)) := Pure.of rfl fun H nx => by
 rw [q156]
 unfold inW
 refine Wq.call (pu_low c) (.refl _ _) fun H1 nx1 hA1 => ?_
 simp only [stpF, dec39, dec95]
 refine Wq.bK (fun h => by rw [h, Bool.true_or]; exact Wq.ret hA1) (fun h => ?_)
 rw [h, Bool.false_or]
 refine Wq.call (pu_high c) hA1 fun H2 nx2 hA2 => ?_
 simp only [stpF]
 refine Wq.bK (fun h => by rw [h, Bool.true_or]; exact Wq.ret hA2) (fun h => ?_)
 rw [h, Bool.false_or]
 refine Wq.call (pu_dig c) hA2 fun H3 nx3 hA3 => ?_
 simp only [stpF]
 refine Wq.bK (fun h => by rw [h, Bool.true_or]; exact Wq.ret hA3) (fun h => ?_)
 rw [h, Bool.false_or]
 refine Wq.bK (fun h => by rw [h, Bool.true_or]; exact Wq.ret hA3) (fun h => ?_)
 rw [h, Bool.false_or]
 exact Wq.ret hA3
theorem w_115 (l : List (List UInt8)) (hl : l.length < big) (s : List UInt8) : ∀ (r : List (List UInt8)) (i : Nat) (H : T OB) (nx : Nat), l.drop i = r -> i <= l.length -> Ag nx0 H0 nx H -> Wq P pl X0 (.jump (l115_7 (strsR l) (txt s) (i64 (i : Int)) H nx)) nx0 H0 (.bool (r.contains s)) := by
 intro r
 induction r with
 | nil =>
   intro i H nx hd hi hA
   have hil := drop_nil hd hi
   refine Wq.jmp (q115_7 ..) (fun _ => rfl) ?_
   simp only [stpF, sttF, List.length_map, hil, not_lt_len]
   exact Wq.ret hA
 | cons x r ih =>
   intro i H nx hd hi hA
   obtain ⟨hg, hlt, hd'⟩ := drop_cons hd
   have hg' : (l.map txt)[i]? = some (txt x) := by simp [hg]
   refine Wq.jmp (q115_7 ..) (fun _ => rfl) ?_
   simp only [stpF, sttF, List.length_map, is_lt_len hlt, ix_49 hg', txt_dec, wrap_succ (show i < 9223372036854775807 by have := sm_lt hl; omega)]
   refine Wq.ite (fun h => ?_) (fun h => ?_)
   . exact Wq.retE (by subst h; simp) hA
   . have : ((x :: r).contains s) = r.contains s := by rw [List.contains_cons, show (s == x) = false from by simp; exact fun q => h q.symm, Bool.false_or]
     rw [this]
     exact ih (i + 1) H nx hd' (by omega) hA
theorem fr_49 (es : List Value) (H : T OB) (nx : Nat) (k : Value -> T OB -> Nat -> Q) : frzV P 49 (rowV 1 es) H nx k = k (rowV 1 es) H nx := by kernel_rfl
theorem pu_115 (l : List (List UInt8)) (hl : l.length < big) (s : List UInt8) : P0 115 [strsR l, txt s] (.bool (l.contains s)) := Pure.of rfl fun H nx => by
 rw [q115, fr_49]
 exact w_115 l hl s l 0 H nx rfl (Nat.zero_le _) (.refl _ _)
theorem zero_9' : zeroC P 9 = some [.string ⟨⟨[]⟩⟩] := by kernel_rfl
theorem Wq.frT {b n : Nat} {l : List (List UInt8)} {H : T OB} {nx : Nat} {R : Value -> T OB -> Nat -> Prop} {k : Value -> T OB -> Nat -> Q} (hb : IsB H b (l.map txt) 9) (hl : l.length = n) (h : Ag nx0 H0 nx H) (hbn : nx0 <= b)
 (hk : ∀ H', (∀ c l e, c ≠ b -> IsB H c l e -> IsB H' c l e) -> Ag nx0 H0 (nx + 1) H' -> WqR P pl X0 (k (strsR l) H' (nx + 1)) nx0 H0 R) : WqR P pl X0 (frzV P 49 (.slice (some ⟨b, 0, none⟩) n n) H nx k) nx0 H0 R := by
 subst hl
 have hch : chunk false 1 l.length (l.map txt) = some (l.map txt) := by
  have := chunk_cells (l.map txt)
  rwa [List.length_map] at this
 exact Wq.frz und_49 sz_9 agg_9 rfl hb (by simp) (by rw [Nat.ble_eq_true_of_le (Nat.le_refl _), Bool.or_true]) hch (by simp [Ev.bK]) h hbn hk
theorem fl_157 : Instr.fill (fun i => some (i * 1, 1)) (zeroRow [Value.string ⟨⟨[]⟩⟩] (26 * 1)) [(0, (.string ⟨⟨[97, 110, 100]⟩⟩)), (1, (.string ⟨⟨[97, 110, 100, 97, 108, 115, 111]⟩⟩)), (2, (.string ⟨⟨[99, 97, 115, 101]⟩⟩)), (3, (.string ⟨⟨[100, 97, 116, 97, 116, 121, 112, 101]⟩⟩)), (4, (.string ⟨⟨[100, 105, 118]⟩⟩)), (5, (.string ⟨⟨[101, 108, 115, 101]⟩⟩)), (6, (.string ⟨⟨[101, 110, 100]⟩⟩)), (7, (.string ⟨⟨[101, 120, 99, 101, 112, 116, 105, 111, 110]⟩⟩)), (8, (.string ⟨⟨[102, 110]⟩⟩)), (9, (.string ⟨⟨[102, 117, 110]⟩⟩)), (10, (.string ⟨⟨[104, 97, 110, 100, 108, 101]⟩⟩)), (11, (.string ⟨⟨[105, 102]⟩⟩)), (12, (.string ⟨⟨[105, 110]⟩⟩)), (13, (.string ⟨⟨[105, 116, 111, 115]⟩⟩)), (14, (.string ⟨⟨[108, 101, 116]⟩⟩)), (15, (.string ⟨⟨[109, 111, 100]⟩⟩)), (16, (.string ⟨⟨[110, 111, 116]⟩⟩)), (17, (.string ⟨⟨[111, 102]⟩⟩)), (18, (.string ⟨⟨[111, 114, 100]⟩⟩)), (19, (.string ⟨⟨[111, 114, 101, 108, 115, 101]⟩⟩)), (20, (.string ⟨⟨[114, 97, 105, 115, 101]⟩⟩)), (21, (.string ⟨⟨[114, 101, 102]⟩⟩)), (22, (.string ⟨⟨[115, 105, 122, 101]⟩⟩)), (23, (.string ⟨⟨[115, 116, 114]⟩⟩)), (24, (.string ⟨⟨[116, 104, 101, 110]⟩⟩)), (25, (.string ⟨⟨[118, 97, 108]⟩⟩))] = some ⟨keysL.map txt⟩ := by kernel_rfl
theorem pu_157 : P0 157 [] (strsR keysL) := Pure.of rfl fun H nx => by
 rw [q157]
 refine Wq.row und_49 sz_9 zero_9' rfl (fl_157) (.refl _ _) fun H1 hb1 _ hA1 => ?_
 refine Wq.frT (l := keysL) hb1 rfl hA1 (Nat.le_refl _) fun H2 _ hA2 => ?_
 exact Wq.ret hA2
theorem fl_116 : Instr.fill (fun i => some (i * 1, 1)) (zeroRow [Value.string ⟨⟨[]⟩⟩] (22 * 1)) [(0, (.string ⟨⟨[45, 62]⟩⟩)), (1, (.string ⟨⟨[61, 62]⟩⟩)), (2, (.string ⟨⟨[58, 58]⟩⟩)), (3, (.string ⟨⟨[58, 61]⟩⟩)), (4, (.string ⟨⟨[60, 61]⟩⟩)), (5, (.string ⟨⟨[62, 61]⟩⟩)), (6, (.string ⟨⟨[60, 62]⟩⟩)), (7, (.string ⟨⟨[61]⟩⟩)), (8, (.string ⟨⟨[60]⟩⟩)), (9, (.string ⟨⟨[62]⟩⟩)), (10, (.string ⟨⟨[43]⟩⟩)), (11, (.string ⟨⟨[45]⟩⟩)), (12, (.string ⟨⟨[42]⟩⟩)), (13, (.string ⟨⟨[94]⟩⟩)), (14, (.string ⟨⟨[33]⟩⟩)), (15, (.string ⟨⟨[126]⟩⟩)), (16, (.string ⟨⟨[40]⟩⟩)), (17, (.string ⟨⟨[41]⟩⟩)), (18, (.string ⟨⟨[44]⟩⟩)), (19, (.string ⟨⟨[59]⟩⟩)), (20, (.string ⟨⟨[124]⟩⟩)), (21, (.string ⟨⟨[95]⟩⟩))] = some ⟨signsL.map txt⟩ := by kernel_rfl
theorem pu_116 : P0 116 [] (strsR signsL) := Pure.of rfl fun H nx => by
 rw [q116]
 refine Wq.row und_49 sz_9 zero_9' rfl (fl_116) (.refl _ _) fun H1 hb1 _ hA1 => ?_
 refine Wq.frT (l := signsL) hb1 rfl hA1 (Nat.le_refl _) fun H2 _ hA2 => ?_
 exact Wq.ret hA2
theorem fl_142 : Instr.fill (fun i => some (i * 1, 1)) (zeroRow [Value.string ⟨⟨[]⟩⟩] (8 * 1)) [(0, (.string ⟨⟨[126]⟩⟩)), (1, (.string ⟨⟨[33]⟩⟩)), (2, (.string ⟨⟨[110, 111, 116]⟩⟩)), (3, (.string ⟨⟨[114, 101, 102]⟩⟩)), (4, (.string ⟨⟨[115, 105, 122, 101]⟩⟩)), (5, (.string ⟨⟨[115, 116, 114]⟩⟩)), (6, (.string ⟨⟨[111, 114, 100]⟩⟩)), (7, (.string ⟨⟨[105, 116, 111, 115]⟩⟩))] = some ⟨wordsL.map txt⟩ := by kernel_rfl
theorem pu_142 : P0 142 [] (strsR wordsL) := Pure.of rfl fun H nx => by
 rw [q142]
 refine Wq.row und_49 sz_9 zero_9' rfl (fl_142) (.refl _ _) fun H1 hb1 _ hA1 => ?_
 refine Wq.frT (l := wordsL) hb1 rfl hA1 (Nat.le_refl _) fun H2 _ hA2 => ?_
 exact Wq.ret hA2
def binsL : List (List UInt8) := [[111, 114, 101, 108, 115, 101], [97, 110, 100, 97, 108, 115, 111], [58, 61], [61], [60, 62], [60], [60, 61], [62], [62, 61], [58, 58], [43], [45], [94], [42], [100, 105, 118], [109, 111, 100]]
theorem fl_bins : Instr.fill (fun i => some (i * 1, 1)) (zeroRow [Value.string ⟨⟨[]⟩⟩] (16 * 1)) [(0, (.string ⟨⟨[111, 114, 101, 108, 115, 101]⟩⟩)), (1, (.string ⟨⟨[97, 110, 100, 97, 108, 115, 111]⟩⟩)), (2, (.string ⟨⟨[58, 61]⟩⟩)), (3, (.string ⟨⟨[61]⟩⟩)), (4, (.string ⟨⟨[60, 62]⟩⟩)), (5, (.string ⟨⟨[60]⟩⟩)), (6, (.string ⟨⟨[60, 61]⟩⟩)), (7, (.string ⟨⟨[62]⟩⟩)), (8, (.string ⟨⟨[62, 61]⟩⟩)), (9, (.string ⟨⟨[58, 58]⟩⟩)), (10, (.string ⟨⟨[43]⟩⟩)), (11, (.string ⟨⟨[45]⟩⟩)), (12, (.string ⟨⟨[94]⟩⟩)), (13, (.string ⟨⟨[42]⟩⟩)), (14, (.string ⟨⟨[100, 105, 118]⟩⟩)), (15, (.string ⟨⟨[109, 111, 100]⟩⟩))] = some ⟨binsL.map txt⟩ := by kernel_rfl
theorem w_112_11 (s : List UInt8) (hl : s.length < big) : ∀ (r : List UInt8) (i : Nat) (H : T OB) (nx : Nat), s.drop i = r -> i <= s.length -> Ag nx0 H0 nx H -> Wq P pl X0 (.jump (l112_11 (txt s) (i64 (i : Int)) H nx)) nx0 H0 (.bool (r.all inW)) := by
 intro r
 induction r with
 | nil =>
   intro i H nx hd hi hA
   have hil := drop_nil hd hi
   refine Wq.jmp (q112_11 ..) (fun _ => rfl) ?_
   simp only [stpF, rdLen_str _ und_9, txt_size, hil, not_lt_len]
   exact Wq.ret hA
 | cons c r ih =>
   intro i H nx hd hi hA
   obtain ⟨hg, hlt, hd'⟩ := drop_cons hd
   refine Wq.jmp (q112_11 ..) (fun _ => rfl) ?_
   simp only [stpF, rdLen_str _ und_9, txt_size, is_lt_len hlt, rdIndex_txt und_9 hg]
   refine Wq.call (pu_156 c) hA fun H1 nx1 hA1 => ?_
   simp only [stpF]
   rw [List.all_cons]
   cases inW c with
   | false => exact Wq.ret hA1
   | true =>
     simp only [stpF, wrap_succ (show i < 9223372036854775807 by have := sm_lt hl; omega), Bool.true_and]
     exact ih (i + 1) H1 nx1 hd' (by omega) hA1
theorem ix0 (a : UInt8) (r : List UInt8) : rdIndex P 9 (some (txt (a :: r))) (some (.int .i64 0)) = some (b8 a) := by
 have := rdIndex_txt (P := P) und_9 (l := a :: r) (i := 0) (c := a) rfl .i64
 exact this
theorem ix1 (a b : UInt8) (r : List UInt8) : rdIndex P 9 (some (txt (a :: b :: r))) (some (.int .i64 1)) = some (b8 b) := rdIndex_txt (P := P) und_9 (l := a :: b :: r) (i := 1) (c := b) rfl .i64
theorem ix2 (a b c : UInt8) (r : List UInt8) : rdIndex P 9 (some (txt (a :: b :: c :: r))) (some (.int .i64 2)) = some (b8 c) := rdIndex_txt (P := P) und_9 (l := a :: b :: c :: r) (i := 2) (c := c) rfl .i64
theorem ix3 (a b c d : UInt8) (r : List UInt8) : rdIndex P 9 (some (txt (a :: b :: c :: d :: r))) (some (.int .i64 3)) = some (b8 d) := rdIndex_txt (P := P) und_9 (l := a :: b :: c :: d :: r) (i := 3) (c := d) rfl .i64
theorem cons_ne (a : UInt8) (r : List UInt8) : decide (a :: r = []) = false := by simp
theorem pu_112 (s : List UInt8) (hl : s.length < big) : P0 112 [txt s] (.bool (isWord s)) := Pure.of rfl fun H nx => by
 rw [q112]
 cases s with
 | nil =>
   simp only [stpF, txt_dec]
   refine Wq.jmp (q112_6 ..) (fun _ => rfl) ?_
   exact Wq.ret (.refl _ _)
 | cons a r =>
   have L6 : ∀ (b : Bool) H1 nx1, Ag nx H nx1 H1 -> b = !(isLow a || isHigh a) -> Wq P pl X0 (.jump (l112_6 (txt (a :: r)) b H1 nx1)) nx H (.bool (isWord (a :: r))) := by
    intro b H1 nx1 hA1 hb
    refine Wq.jmp (q112_6 ..) (fun _ => rfl) ?_
    show Wq P pl X0 _ nx H (.bool ((isLow a || isHigh a) && r.all inW))
    cases hx : isLow a || isHigh a with
    | true => rw [hx] at hb; rw [hb, Bool.true_and]; exact w_112_11 (a :: r) hl r 1 H1 nx1 rfl (by simp) hA1
    | false => rw [hx] at hb; rw [hb, Bool.false_and]; exact Wq.ret hA1
   simp only [stpF, txt_dec, cons_ne, ix0]
   refine Wq.call (pu_low a) (.refl _ _) fun H1 nx1 hA1 => ?_
   simp only [stpF]
   cases hlo : isLow a with
   | true => simp only [stpF]; exact L6 false _ _ hA1 (by rw [hlo]; rfl)
   | false =>
     simp only [stpF]
     refine Wq.call (pu_high a) hA1 fun H2 nx2 hA2 => ?_
     simp only [stpF]
     exact L6 _ _ _ hA2 (by rw [hlo, Bool.false_or])
theorem w_114_11 (s : List UInt8) (hl : s.length < big) : ∀ (r : List UInt8) (i : Nat) (H : T OB) (nx : Nat), s.drop i = r -> i <= s.length -> Ag nx0 H0 nx H -> Wq P pl X0 (.jump (l114_11 (txt s) (i64 (i : Int)) H nx)) nx0 H0 (.bool (r.all fun c => !decide (c.toNat = 39) && inW c)) := by
 intro r
 induction r with
 | nil =>
   intro i H nx hd hi hA
   have hil := drop_nil hd hi
   refine Wq.jmp (q114_11 ..) (fun _ => rfl) ?_
   simp only [stpF, rdLen_str _ und_9, txt_size, hil, not_lt_len]
   exact Wq.ret hA
 | cons c r ih =>
   intro i H nx hd hi hA
   obtain ⟨hg, hlt, hd'⟩ := drop_cons hd
   have L16 : ∀ (b : Bool) H1 nx1, Ag nx0 H0 nx1 H1 -> b = !(!decide (c.toNat = 39) && inW c) -> Wq P pl X0 (.jump (l114_16 (txt s) (i64 (i : Int)) b H1 nx1)) nx0 H0 (.bool ((c :: r).all fun c => !decide (c.toNat = 39) && inW c)) := by
    intro b H1 nx1 hA1 hb
    refine Wq.jmp (q114_16 ..) (fun _ => rfl) ?_
    rw [List.all_cons]
    cases hx : (!decide (c.toNat = 39) && inW c) with
    | false => rw [hx] at hb; rw [hb, Bool.false_and]; exact Wq.ret hA1
    | true =>
      rw [hx] at hb
      rw [hb, Bool.true_and]
      simp only [stpF, wrap_succ (show i < 9223372036854775807 by have := sm_lt hl; omega)]
      exact ih (i + 1) H1 nx1 hd' (by omega) hA1
   refine Wq.jmp (q114_11 ..) (fun _ => rfl) ?_
   simp only [stpF, rdLen_str _ und_9, txt_size, is_lt_len hlt, rdIndex_txt und_9 hg, dec39]
   refine Wq.bK (fun h => L16 _ _ _ hA (by rw [h]; rfl)) (fun h => ?_)
   refine Wq.call (pu_156 c) hA fun H1 nx1 hA1 => ?_
   simp only [stpF]
   exact L16 _ _ _ hA1 (by rw [h]; rfl)
theorem pu_114 (s : List UInt8) (hl : s.length < big) : P0 114 [txt s] (.bool (isVar s)) := Pure.of rfl fun H nx => by
 rw [q114]
 have L6t : ∀ H1 nx1, Ag nx H nx1 H1 -> isVar s = false -> Wq P pl X0 (.jump (l114_6 (txt s) true H1 nx1)) nx H (.bool (isVar s)) := by
  intro H1 nx1 hA1 h
  refine Wq.jmp (q114_6 ..) (fun _ => rfl) ?_
  rw [h]; exact Wq.ret hA1
 match s with
 | [] => simp only [stpF, rdLen_str _ und_9, txt_size]; exact L6t _ _ (.refl _ _) rfl
 | [a] => simp only [stpF, rdLen_str _ und_9, txt_size, List.length_cons]; exact L6t _ _ (.refl _ _) rfl
 | a :: b :: r =>
   have e2 : decide (((a :: b :: r).length : Int) < 2) = false := by simp; omega
   simp only [stpF, rdLen_str _ und_9, txt_size, e2, ix0, dec39]
   have hv : isVar (a :: b :: r) = (decide (a.toNat = 39) && (isLow b && r.all fun c => !decide (c.toNat = 39) && inW c)) := rfl
   cases ha : decide (a.toNat = 39) with
   | false => simp only [stpF]; exact L6t _ _ (.refl _ _) (by rw [hv, ha]; rfl)
   | true =>
     simp only [stpF, ix1]
     refine Wq.call (pu_low b) (.refl _ _) fun H1 nx1 hA1 => ?_
     simp only [stpF]
     cases hb : isLow b with
     | false => exact L6t _ _ hA1 (by rw [hv, hb]; simp)
     | true =>
       refine Wq.jmp (q114_6 ..) (fun _ => rfl) ?_
       rw [hv, ha, hb, Bool.true_and, Bool.true_and]
       exact w_114_11 (a :: b :: r) hl r 2 H1 nx1 rfl (by simp) hA1
def kindR (s : List UInt8) : Int := if keysL.contains s = true then 6 else if (firstHigh s || (decide (s = [116, 114, 117, 101]) || (decide (s = [102, 97, 108, 115, 101]) || decide (s = [110, 105, 108])))) = true then 4 else 3
theorem kindR_eq (s : List UInt8) : kindR s = kindW s := by
 unfold kindR kindW
 have key : keysL.contains s = true -> (firstHigh s || (decide (s = [116, 114, 117, 101]) || (decide (s = [102, 97, 108, 115, 101]) || decide (s = [110, 105, 108])))) = false := by
  intro h
  have hm : s ∈ keysL := by simpa using h
  have : ∀ k ∈ keysL, (firstHigh k || (decide (k = [116, 114, 117, 101]) || (decide (k = [102, 97, 108, 115, 101]) || decide (k = [110, 105, 108])))) = false := by decide
  exact this s hm
 by_cases h : keysL.contains s = true
 . rw [if_pos h, key h, if_neg (by decide), if_pos h]
 . rw [if_neg h, if_neg h]
theorem pu_113 (a : UInt8) (r : List UInt8) : P0 113 [txt (a :: r)] (i64 (kindW (a :: r))) := Pure.of rfl fun H nx => by
 rw [q113, <- kindR_eq]
 refine Wq.call pu_157 (.refl _ _) fun H1 nx1 hA1 => ?_
 refine Wq.call (pu_115 keysL (by decide) (a :: r)) hA1 fun H2 nx2 hA2 => ?_
 unfold kindR
 simp only [stpF]
 refine Wq.bK (fun h => by rw [if_pos h]; exact Wq.ret hA2) (fun h => ?_)
 rw [if_neg (by rw [h]; decide)]
 have L10 : ∀ (b : Bool) H1 nx1, Ag nx H nx1 H1 -> b = (isHigh a || (decide (a :: r = [116, 114, 117, 101]) || (decide (a :: r = [102, 97, 108, 115, 101]) || decide (a :: r = [110, 105, 108])))) -> Wq P pl X0 (.jump (l113_10 b H1 nx1)) nx H (i64 (if (firstHigh (a :: r) || (decide (a :: r = [116, 114, 117, 101]) || (decide (a :: r = [102, 97, 108, 115, 101]) || decide (a :: r = [110, 105, 108])))) = true then 4 else 3)) := by
  intro b H1 nx1 hA1 hb
  refine Wq.jmp (q113_10 ..) (fun _ => rfl) ?_
  show Wq P pl X0 _ nx H (i64 (if (isHigh a || (decide (a :: r = [116, 114, 117, 101]) || (decide (a :: r = [102, 97, 108, 115, 101]) || decide (a :: r = [110, 105, 108])))) = true then 4 else 3))
  rw [<- hb]
  cases b
  . exact Wq.ret hA1
  . exact Wq.ret hA1
 simp only [stpF, ix0]
 refine Wq.call (pu_high a) hA2 fun H3 nx3 hA3 => ?_
 simp only [stpF, txt_dec]
 refine Wq.bK (fun h => L10 _ _ _ hA3 (by rw [h]; rfl)) (fun h0 => ?_)
 refine Wq.bK (fun h => L10 _ _ _ hA3 (by rw [h0, h]; rfl)) (fun h1 => ?_)
 refine Wq.bK (fun h => L10 _ _ _ hA3 (by rw [h0, h1, h]; rfl)) (fun h2 => ?_)
 exact L10 _ _ _ hA3 (by rw [h0, h1, h2]; rfl)
end
end Go.Proofs.YthjhonhhbddhkaaGreatDoor
/- The document: tokens that are words. -/
namespace Go.Proofs.YthjhonhhbddhkaaGreatDoor
open Go.Ev Go.RowKit
noncomputable section
set_option maxRecDepth 100000
set_option linter.unusedVariables false
set_option linter.unusedSimpArgs false
variable {nx0 : Nat} {H0 : T OB}
def first (s : List UInt8) (n : Nat) : Bool := match s with
 | [] => false
 | c :: _ => decide (c.toNat = n)
def firstDig (s : List UInt8) : Bool := match s with
 | [] => false
 | c :: _ => isDig c
theorem und_2 : P.underlying 2 = some (.int .i64) := by kernel_rfl
theorem und_3 : P.underlying 3 = some (.int .i64) := by kernel_rfl
theorem und_5 : P.underlying 5 = some (.int .u8) := by kernel_rfl
theorem zero_5 : zeroC P 5 = some [.int .u8 0] := by kernel_rfl
theorem cv_5_2 (H : T OB) (k : IntKind) (n : Int) : rdConv P H 5 2 (some (.int k n)) = some (i64 (IntKind.i64.wrap n)) := rdConv_int und_5 und_2
theorem cv_5_3 (H : T OB) (k : IntKind) (n : Int) : rdConv P H 5 3 (some (.int k n)) = some (i64 (IntKind.i64.wrap n)) := rdConv_int und_5 und_3
theorem cv_3_5 (H : T OB) (n : Int) : rdConv P H 3 5 (some (i64 n)) = some (.int .u8 (IntKind.u8.wrap n)) := rdConv_int und_3 und_5
theorem quo_10 (H : T OB) (a : Int) : rdBin P H .quo 2 true (some (i64 a)) (some (i64 10)) = some (i64 (IntKind.i64.wrap (a.tdiv 10))) := rdBin_quo _ _ _ _ _ (by decide)
abbrev NumR (s : List UInt8) (b0 : Bool) : Value -> T OB -> Nat -> Prop := fun v _ _ => ∃ n b, v = .tuple ⟨[i64 n, .bool b]⟩ /\ (b = true -> b0 = true \/ firstDig s = true)
theorem w_110_9 (s : List UInt8) (hl : s.length < big) : ∀ (r : List UInt8) (i : Nat) (n : Int) (H : T OB) (nx : Nat), s.drop i = r -> i <= s.length -> (i = 0 \/ firstDig s = true) -> Ag nx0 H0 nx H ->
 WqR P pl X0 (.jump (l110_9 (txt s) (i64 n) (i64 (i : Int)) H nx)) nx0 H0 (NumR s false) := by
 intro r
 induction r with
 | nil =>
   intro i n H nx hd hi h1 hA
   have hil := drop_nil hd hi
   refine Wq.jmp (q110_9 ..) (fun _ => rfl) ?_
   simp only [stpF, rdLen_str _ und_9, txt_size, hil, not_lt_len, txt_dec]
   refine Wq.retR hA ⟨n, _, rfl, fun h => .inr ?_⟩
   rcases h1 with h1 | h1
   . have : s = [] := by cases s with
      | nil => rfl
      | cons a t => rw [h1] at hil; simp at hil
     rw [this] at h; simp at h
   . exact h1
 | cons c r ih =>
   intro i n H nx hd hi h1 hA
   obtain ⟨hg, hlt, hd'⟩ := drop_cons hd
   have L14 : ∀ (b : Bool) H1 nx1, Ag nx0 H0 nx1 H1 -> (b = false -> isDig c = true) -> WqR P pl X0 (.jump (l110_14 (txt s) (i64 n) (i64 (i : Int)) b H1 nx1)) nx0 H0 (NumR s false) := by
    intro b H1 nx1 hA1 hb
    refine Wq.jmp (q110_14 ..) (fun _ => rfl) ?_
    cases b with
    | true => exact Wq.retR hA1 ⟨0, false, rfl, fun h => by cases h⟩
    | false =>
      simp only [stpF, rdIndex_txt und_9 hg, cv_5_2, wrap_succ (show i < 9223372036854775807 by have := sm_lt hl; omega)]
      refine ih (i + 1) _ H1 nx1 hd' (by omega) (.inr ?_) hA1
      rcases h1 with h1 | h1
      . subst h1
        rw [List.drop_zero] at hd
        rw [hd]
        exact hb rfl
      . exact h1
   refine Wq.jmp (q110_9 ..) (fun _ => rfl) ?_
   simp only [stpF, rdLen_str _ und_9, txt_size, is_lt_len hlt, rdIndex_txt und_9 hg]
   refine Wq.call (pu_dig c) hA fun H1 nx1 hA1 => ?_
   simp only [stpF, cv_5_2, quo_10]
   cases hdg : isDig c with
   | false => exact L14 _ _ _ hA1 (fun h => by cases h)
   | true => exact L14 _ _ _ hA1 (fun h => hdg)
theorem w_110 (s : List UInt8) (hl : s.length < big) (H : T OB) (nx : Nat) (hA : Ag nx0 H0 nx H) : WqR P pl X0 (evT P pl (.call 110 [txt s] false none H nx)) nx0 H0 (NumR s false) := by
 rw [q110]
 exact w_110_9 s hl s 0 0 H nx rfl (Nat.zero_le _) (.inl rfl) hA
theorem pu_180 (c : UInt8) : ∃ n : Int, P0 180 [b8 c] (i64 n) := by
 refine ⟨if isDig c = true then IntKind.i64.wrap (IntKind.i64.wrap (c.toNat : Int) - 48) else if (decide (65 <= c.toNat) && decide (c.toNat <= 70)) = true then IntKind.i64.wrap (IntKind.i64.wrap (IntKind.i64.wrap (c.toNat : Int) - 65) + 10) else -1, Pure.of rfl fun H nx => ?_⟩
 rw [q180]
 refine Wq.call (pu_dig c) (.refl _ _) fun H1 nx1 hA1 => ?_
 simp only [stpF, cv_5_3]
 refine Wq.bK (fun h => by rw [if_pos h]; exact Wq.ret hA1) (fun h => ?_)
 rw [if_neg (by rw [h]; decide)]
 refine Wq.call (pu_144 c 65 70) hA1 fun H2 nx2 hA2 => ?_
 simp only [stpF]
 refine Wq.bK (fun h => by rw [if_pos h]; exact Wq.ret hA2) (fun h => ?_)
 rw [if_neg (by rw [h]; decide)]
 exact Wq.ret hA2
abbrev SigR (s : List UInt8) : Value -> T OB -> Nat -> Prop := fun v _ _ => ∃ (c : UInt8) (n : Nat), v = .tuple ⟨[b8 c, i64 (n : Int)]⟩ /\ n <= s.length
theorem wrap_u8 (n : Int) : IntKind.u8.wrap n = n % 256 := by
 unfold IntKind.wrap
 simp [IntKind.bits, IntKind.signed]
theorem u8_of (n : Int) : ∃ c : UInt8, IntKind.u8.wrap n = (c.toNat : Int) := by
 have h : 0 <= IntKind.u8.wrap n /\ IntKind.u8.wrap n < 256 := by
  rw [wrap_u8]; omega
 refine ⟨UInt8.ofNat (IntKind.u8.wrap n).toNat, ?_⟩
 rw [UInt8.toNat_ofNat']
 omega
theorem sg (c : UInt8) (n : Nat) (s : List UInt8) (h : n <= s.length) (H : T OB) (nx : Nat) (hA : Ag nx0 H0 nx H) : WqR P pl X0 (.ret ⟨.ret (.tuple ⟨[b8 c, i64 (n : Int)]⟩), false, H, nx⟩) nx0 H0 (SigR s) := Wq.retR hA ⟨c, n, rfl, h⟩
theorem w_155 (s : List UInt8) (hs : s ≠ []) (hl : s.length < big) (H : T OB) (nx : Nat) (hA : Ag nx0 H0 nx H) : WqR P pl X0 (evT P pl (.call 155 [txt s] false none H nx)) nx0 H0 (SigR s) := by
 rw [q155]
 obtain ⟨a, t, rfl⟩ : ∃ a t, s = a :: t := by cases s with
  | nil => exact absurd rfl hs
  | cons a t => exact ⟨a, t, rfl⟩
 have L36 : ∀ (b : Bool) H1 nx1, Ag nx0 H0 nx1 H1 -> (b = true -> ∃ x y z r, t = x :: y :: z :: r) -> WqR P pl X0 (.jump (l155_36 (txt (a :: t)) b H1 nx1)) nx0 H0 (SigR (a :: t)) := by
  intro b H1 nx1 hA1 hb
  refine Wq.jmp (q155_36 ..) (fun _ => rfl) ?_
  cases b with
  | false => exact sg 0 0 _ (Nat.zero_le _) _ _ hA1
  | true =>
    obtain ⟨x, y, z, r, rfl⟩ := hb rfl
    obtain ⟨n1, p1⟩ := pu_180 y
    obtain ⟨n2, p2⟩ := pu_180 z
    simp only [stpF, ix2, ix3]
    refine Wq.call p1 hA1 fun H2 nx2 hA2 => ?_
    simp only [stpF]
    refine Wq.call p2 hA2 fun H3 nx3 hA3 => ?_
    simp only [stpF, cv_3_5]
    obtain ⟨c, hc⟩ := u8_of (IntKind.i64.wrap (IntKind.i64.wrap (16 * n1) + n2))
    rw [hc]
    exact sg c 4 _ (by simp) _ _ hA3
 have L6 : ∀ (b : Bool) H1 nx1, Ag nx0 H0 nx1 H1 -> WqR P pl X0 (.jump (l155_6 (txt (a :: t)) b H1 nx1)) nx0 H0 (SigR (a :: t)) := by
  intro b H1 nx1 hA1
  refine Wq.jmp (q155_6 ..) (fun _ => rfl) ?_
  cases b with
  | true => exact sg 0 0 _ (Nat.zero_le _) _ _ hA1
  | false =>
    simp only [stpF, ix0]
    refine Wq.nite (fun h => sg a 1 _ (by simp) _ _ hA1) (fun h => ?_)
    cases t with
    | nil =>
      simp only [stpF, rdLen_str _ und_9, txt_size, List.length_cons]
      exact sg 0 0 _ (Nat.zero_le _) _ _ hA1
    | cons x t =>
      have e2 : decide (((a :: x :: t).length : Int) < 2) = false := by simp; omega
      simp only [stpF, rdLen_str _ und_9, txt_size, e2, ix1]
      refine Wq.ite (fun h => sg 34 2 _ (by simp) _ _ hA1) (fun h1 => ?_)
      refine Wq.ite (fun h => sg 92 2 _ (by simp) _ _ hA1) (fun h1 => ?_)
      refine Wq.ite (fun h => sg 10 2 _ (by simp) _ _ hA1) (fun h1 => ?_)
      refine Wq.ite (fun h => sg 9 2 _ (by simp) _ _ hA1) (fun h1 => ?_)
      refine Wq.ite (fun h => ?_) (fun h1 => L36 _ _ _ hA1 (fun h => by cases h))
      refine Wq.ite (fun h4 => ?_) (fun h1 => L36 _ _ _ hA1 (fun h => by cases h))
      obtain ⟨y, z, r, rfl⟩ : ∃ y z r, t = y :: z :: r := by
       match t with
       | [] => simp at h4
       | [_] => simp at h4
       | y :: z :: r => exact ⟨y, z, r, rfl⟩
      obtain ⟨n1, p1⟩ := pu_180 y
      obtain ⟨n2, p2⟩ := pu_180 z
      simp only [stpF, ix2, ix3]
      refine Wq.call p1 hA1 fun H2 nx2 hA2 => ?_
      simp only [stpF]
      refine Wq.ite (fun h => ?_) (fun h1 => L36 _ _ _ hA2 (fun h => by cases h))
      refine Wq.call p2 hA2 fun H3 nx3 hA3 => ?_
      simp only [stpF]
      exact L36 _ _ _ hA3 fun _ => ⟨x, y, z, r, rfl⟩
 simp only [stpF, txt_dec, cons_ne, ix0]
 refine Wq.bK (fun h => L6 _ _ _ hA) (fun h => ?_)
 refine Wq.bK (fun h => L6 _ _ _ hA) (fun h => ?_)
 exact L6 _ _ _ hA
end
end Go.Proofs.YthjhonhhbddhkaaGreatDoor
/- The document: tokens that are words, whole. -/
namespace Go.Proofs.YthjhonhhbddhkaaGreatDoor
open Go.Ev Go.RowKit
noncomputable section
set_option maxRecDepth 100000
set_option linter.unusedVariables false
set_option linter.unusedSimpArgs false
variable {nx0 : Nat} {H0 : T OB}
theorem rdSlice_tail {H : T OB} {l : List UInt8} {lo : Nat} (h1 : lo <= l.length) : rdSlice P H 9 (some (txt l)) (some (some (i64 (lo : Int)))) (some none) (some none) = some (txt (l.drop lo)) := by
 show sliceV P 9 (txt l) (some (some (i64 (lo : Int)))) (some none) (some none) = _
 show fV P (Instr.sliceAt 9 (txt l) (some (i64 (lo : Int))) none none) = _
 have e0 : (⟨⟨l⟩⟩ : ByteArray).extract lo l.length = ⟨⟨l.drop lo⟩⟩ := by
  apply ByteArray.ext
  rw [ByteArray.data_extract]
  apply Array.ext'
  simp [List.take_of_length_le]
 have e1 : pureRun P (Instr.sliceAt 9 (txt l) (some (i64 (lo : Int))) none none) = some (txt (l.drop lo)) := by
  unfold Instr.sliceAt
  simp only [pureRun_bind, pureRun_und und_9, Option.bind_some]
  unfold Instr.slice
  simp only [pureRun_bind, pureRun_und und_9, Option.bind_some]
  unfold Instr.sliceBounds Instr.sliceBound
  simp only [pureRun_bind, asIntOf, Option.isSome]
  have pp : ∀ {α : Type} (a : α), pureRun P (pure a : Sem α) = some a := fun _ => rfl
  rw [if_neg (by decide)]
  simp only [pureRun_bind, pp, Option.bind_some]
  have c2 : (0 : Int) <= (lo : Int) /\ (lo : Int) <= ((⟨⟨l⟩⟩ : ByteArray).size : Int) := ⟨by omega, by rw [txt_size]; omega⟩
  rw [if_pos c2]
  simp only [pp, Option.bind_some, Int.toNat_natCast, txt_size, e0]
 exact fV_run e1 rfl
theorem Wq.callK {f : FuncId} {args : List Value} {H : T OB} {nx : Nat} {R R1 : Value -> T OB -> Nat -> Prop} {k p : Value -> T OB -> Nat -> Q} (hx : X0 f args = none) (h : WqR P pl X0 (evT P pl (.call f args false none H nx)) nx H R1) (hA : Ag nx0 H0 nx H)
 (hk : ∀ u H' nx', Ag nx0 H0 nx' H' -> Ag nx H nx' H' -> R1 u H' nx' -> WqR P pl X0 (k u H' nx') nx0 H0 R) : WqR P pl X0 (callQ (.call f args false none H nx) k p) nx0 H0 R := by
 obtain ⟨u, H1, nx1, h1, hR1, h2⟩ := h
 obtain ⟨v, H2, nx2, h3, hR, h4⟩ := hk u H1 nx1 (hA.trans h1) h1 hR1
 refine ⟨v, H2, nx2, h3, hR, ?_⟩
 show optK (F P pl X0 (.call f args false none H nx)) (fun r => (match r.o with | .ret v => k v r.H r.nx | .pan v => p v r.H r.nx : Q).run (F P pl X0)) none = _
 have e1 : F P pl X0 (.call f args false none H nx) = some ⟨.ret u, false, H1, nx1⟩ := by
  rw [F_eq]
  show @Option.rec Value (fun _ => Option Rt) _ (fun v => some ⟨.ret v, false, H, nx⟩) (X0 f args) = _
  rw [hx]
  exact h2
 rw [e1]
 exact h4
theorem BS.keep {nx0 : Nat} {e : TypeId} {nx nx' : Nat} {H H' : T OB} {r : List UInt8} {sl : Value} (h : BS e nx0 H nx r sl) (hn : nx <= nx') (hk : ∀ b l e, b < nx -> IsB H b l e -> IsB H' b l e) : BS e nx0 H' nx' r sl := by
 rcases h with h | ⟨b, c, h1, h2, h3, h4, h5⟩
 . exact .inl h
 . exact .inr ⟨b, c, h1, by omega, hk _ _ _ h2 h3, h4, h5⟩
theorem sm_5 (n : Nat) : apSmall P 5 1 n = (Nat.ble n 1048576 && true) := by kernel_rfl
theorem sm_5' {n : Nat} (h : n <= 1048576) : apSmall P 5 1 n = true := by rw [sm_5, Nat.ble_eq_true_of_le h]; rfl
theorem fl_b (c : UInt8) : Instr.fill (fun i => some (i * 1, 1)) (zeroRow [Value.int .u8 0] (1 * 1)) [(0, b8 c)] = some ⟨bys [c]⟩ := by kernel_rfl
theorem isB_120 : isBytesT P 120 9 = true := by kernel_rfl
abbrev QuoR (s : List UInt8) : Value -> T OB -> Nat -> Prop := fun v _ _ => ∃ u b, v = .tuple ⟨[txt u, .bool b]⟩ /\ (b = true -> first s 34 = true)
theorem w_111_13 (s : List UInt8) (hf : first s 34 = true) (h2 : 2 <= s.length) (hl : s.length <= 1000000) : ∀ (d i : Nat) (r : List UInt8) (sl : Value) (H : T OB) (nx : Nat), s.length - i <= d -> 1 <= i -> i <= s.length -> r.length <= i -> BS 5 nx0 H nx r sl -> Ag nx0 H0 nx H ->
 WqR P pl X0 (.jump (l111_13 (txt s) sl (i64 (i : Int)) H nx)) nx0 H0 (QuoR s) := by
 have hw : IntKind.i64.wrap ((s.length : Int) - 1) = ((s.length - 1 : Nat) : Int) := by rw [wrap_id (by omega)]; omega
 intro d
 induction d with
 | zero =>
   intro i r sl H nx hd hi hi2 hr hB hA
   refine Wq.jmp (q111_13 ..) (fun _ => rfl) ?_
   have e1 : decide ((i : Int) < ((s.length - 1 : Nat) : Int)) = false := by simp; omega
   have e2 : decide ((i : Int) = ((s.length - 1 : Nat) : Int)) = false := by simp; omega
   simp only [stpF, rdLen_str _ und_9, txt_size, hw, e1, rdConv_BS und_120 und_5 und_9 isB_120 hB, e2]
   exact Wq.retR hA ⟨r, false, rfl, fun h => by cases h⟩
 | succ d ih =>
   intro i r sl H nx hd hi hi2 hr hB hA
   refine Wq.jmp (q111_13 ..) (fun _ => rfl) ?_
   by_cases hlt : i < s.length - 1
   . have e1 : decide ((i : Int) < ((s.length - 1 : Nat) : Int)) = true := by simp; omega
     simp only [stpF, rdLen_str _ und_9, txt_size, hw, e1, rdSlice_tail hi2]
     refine Wq.callK rfl (w_155 (s.drop i) (by simp; omega) (by rw [List.length_drop]; exact Nat.lt_of_le_of_lt (Nat.sub_le _ _) (Nat.lt_of_le_of_lt hl (by decide))) H nx (.refl _ _)) hA fun u H1 nx1 hA1 hB1 hu => ?_
     obtain ⟨c, n, rfl, hn⟩ := hu
     have x0 : rdExtract (some (Value.tuple ⟨[b8 c, i64 (n : Int)]⟩)) 0 = some (b8 c) := rfl
     have x1 : rdExtract (some (Value.tuple ⟨[b8 c, i64 (n : Int)]⟩)) 1 = some (i64 (n : Int)) := rfl
     simp only [stpF, x0, x1]
     refine Wq.ite (fun h => Wq.retR hA1 ⟨[], false, rfl, fun h => by cases h⟩) (fun h => ?_)
     rw [List.length_drop] at hn
     have hB' := BS.keep hB hB1.1 fun b l e hb h => h.ag hB1 hb
     have hn0 : n ≠ 0 := fun q => h (by rw [q]; rfl)
     refine Wq.addB (x := [c]) und_120 sz_5 zero_5 hB' rfl rfl (fl_b c) (fun m hm => sm_5' (by simp at hm; omega)) hA1 fun H2 sl2 nx2 hB2 hA2 _ => ?_
     have ew : IntKind.i64.wrap ((i : Int) + (n : Int)) = ((i + n : Nat) : Int) := by rw [wrap_id (by omega)]; omega
     simp only [stpF, ew]
     exact ih (i + n) (r ++ [c]) sl2 H2 nx2 (by omega) (by omega) (by omega) (by simp; omega) hB2 hA2
   . have e1 : decide ((i : Int) < ((s.length - 1 : Nat) : Int)) = false := by simp; omega
     simp only [stpF, rdLen_str _ und_9, txt_size, hw, e1, rdConv_BS und_120 und_5 und_9 isB_120 hB]
     refine Wq.ite (fun h => ?_) (fun h => Wq.retR hA ⟨r, false, rfl, fun h => by cases h⟩)
     have hi3 : i < s.length := by omega
     simp only [stpF, rdIndex_txt und_9 (List.getElem?_eq_getElem hi3)]
     exact Wq.retR hA ⟨r, _, rfl, fun _ => hf⟩
theorem w_111 (s : List UInt8) (hl : s.length <= 1000000) (H : T OB) (nx : Nat) (hA : Ag nx0 H0 nx H) : WqR P pl X0 (evT P pl (.call 111 [txt s] false none H nx)) nx0 H0 (QuoR s) := by
 rw [q111]
 have L6t : ∀ H1 nx1, Ag nx0 H0 nx1 H1 -> WqR P pl X0 (.jump (l111_6 (txt s) true H1 nx1)) nx0 H0 (QuoR s) := by
  intro H1 nx1 hA1
  refine Wq.jmp (q111_6 ..) (fun _ => rfl) ?_
  exact Wq.retR hA1 ⟨[], false, rfl, fun h => by cases h⟩
 simp only [stpF, rdLen_str _ und_9, txt_size]
 refine Wq.ite (fun h => L6t _ _ hA) (fun h => ?_)
 obtain ⟨a, r, rfl⟩ : ∃ a r, s = a :: r := by cases s with
  | nil => simp at h
  | cons a r => exact ⟨a, r, rfl⟩
 simp only [stpF, ix0]
 by_cases h34 : a.toNat = 34
 . have e : decide ((a.toNat : Int) = 34) = true := by simp; omega
   simp only [stpF, e]
   refine Wq.jmp (q111_6 ..) (fun _ => rfl) ?_
   exact w_111_13 _ (by simp [first, h34]) (by omega) hl _ 1 [] _ H nx (Nat.le_refl _) (by omega) (by omega) (by simp) (.nil _ _ _ _) hA
 . have e : decide ((a.toNat : Int) = 34) = false := by simp; omega
   simp only [stpF, e]
   exact L6t _ _ hA
theorem isWord_first {s : List UInt8} (h : isWord s = true) : firstDig s = false /\ first s 34 = false /\ first s 39 = false := by
 cases s with
 | nil => cases h
 | cons a r =>
   have : (isLow a || isHigh a) = true := by
    have h' : ((isLow a || isHigh a) && r.all inW) = true := h
    rw [Bool.and_eq_true] at h'
    exact h'.1
   unfold isLow isHigh at this
   unfold firstDig first isDig
   simp only [Bool.or_eq_true, Bool.and_eq_true, decide_eq_true_eq, decide_eq_false_iff_not, Bool.and_eq_false_iff] at this ⊢
   omega
theorem isVar_first {s : List UInt8} (h : isVar s = true) : firstDig s = false /\ first s 34 = false /\ first s 39 = true := by
 match s with
 | [] => cases h
 | [_] => cases h
 | a :: b :: r =>
   have h' : (decide (a.toNat = 39) && (isLow b && r.all fun c => !decide (c.toNat = 39) && inW c)) = true := h
   rw [Bool.and_eq_true, decide_eq_true_eq] at h'
   unfold firstDig first isDig
   simp only [Bool.and_eq_true, decide_eq_true_eq, decide_eq_false_iff_not, Bool.and_eq_false_iff]
   omega
theorem kindW_ne (s : List UInt8) : kindW s = 3 \/ kindW s = 4 \/ kindW s = 6 := by
 unfold kindW
 split
 . exact .inr (.inl rfl)
 . split
   . exact .inr (.inr rfl)
   . exact .inl rfl
def wordOk (k : Int) (s : List UInt8) : Bool := tokOk ⟨k, s, 0, 0⟩
theorem wordOk_3 (s : List UInt8) : wordOk 3 s = (isWord s && decide (kindW s = 3)) := by simp [wordOk, tokOk]
theorem wordOk_4 (s : List UInt8) : wordOk 4 s = (isWord s && decide (kindW s = 4)) := by simp [wordOk, tokOk]
theorem wordOk_5 (s : List UInt8) : wordOk 5 s = isVar s := by simp [wordOk, tokOk]
abbrev TokR (s : List UInt8) : Value -> T OB -> Nat -> Prop := fun v _ _ => ∃ (t : Tok) (b : Bool), v = .tuple ⟨[t.v, .bool b]⟩ /\ t.n = t.n /\ ∀ k, (k = 3 \/ k = 4 \/ k = 5) -> (b && (decide (t.k = k) && (decide (t.s = s) && decide (t.n = 0)))) = wordOk k s
theorem bd_31_n (n : Int) : rdBuild P 31 (some [(0, i64 1), (2, i64 n)]) = some (Tok.v ⟨1, [], n, 0⟩) := rdBuild_of zero_31 (by kernel_rfl)
theorem bd_31_t (k : Int) (s : List UInt8) : rdBuild P 31 (some [(0, i64 k), (1, txt s)]) = some (Tok.v ⟨k, s, 0, 0⟩) := rdBuild_of zero_31 (by kernel_rfl)
theorem w_63 (s : List UInt8) (hl : s.length <= 1000000) (H : T OB) (nx : Nat) (hA : Ag nx0 H0 nx H) : WqR P pl X0 (evT P pl (.call 63 [txt s] false none H nx)) nx0 H0 (TokR s) := by
 have hb : s.length < big := Nat.lt_of_le_of_lt hl (by decide)
 have W : isWord s = false -> isVar s = false -> ∀ k, (k = 3 \/ k = 4 \/ k = 5) -> wordOk k s = false := by
  intro h1 h2 k hk
  rcases hk with rfl | rfl | rfl
  . rw [wordOk_3, h1]; rfl
  . rw [wordOk_4, h1]; rfl
  . rw [wordOk_5, h2]
 rw [q63]
 refine Wq.alloc zero_31 hA fun H1 hb1 _ hA1 => ?_
 have E : ∀ (t : Tok) (b : Bool) H2 nx2, IsB H2 nx [i64 0, txt [], i64 0, i64 0] 31 -> Ag nx0 H0 nx2 H2 -> (∀ k, (k = 3 \/ k = 4 \/ k = 5) -> (b && (decide (t.k = k) && (decide (t.s = s) && decide (t.n = 0)))) = wordOk k s) ->
  WqR P pl X0 (effQ (efStore P H2 nx2 31 (some (.pointer (some ⟨nx, 0, none⟩))) (some t.v)) fun _ H nx' => optK (rdLoad P H 31 (some (.pointer (some ⟨nx, 0, none⟩)))) (fun x => .ret ⟨.ret (.tuple ⟨[x, .bool b]⟩), false, H, nx'⟩) .bad) nx0 H0 (TokR s) := by
  intro t b H2 nx2 hb2 hA2 h
  refine Wq.store hb2 sz_31 (by simp) rfl rfl hA2 hA.1 fun H3 hb3 _ hA3 => ?_
  have hb3' : IsB H3 nx t.c 31 := hb3
  rw [rdLoad_agg hb3' agg_31 sz_31 (by simp)]
  exact Wq.retR hA3 ⟨t, b, rfl, rfl, h⟩
 refine Wq.callK rfl (w_110 s hb H1 _ (.refl _ _)) hA1 fun u H2 nx2 hA2 k2 hu => ?_
 obtain ⟨n, b, rfl, hnb⟩ := hu
 replace hb1 := IsB.ag hb1 k2 (by omega)
 have x0 : rdExtract (some (Value.tuple ⟨[i64 n, .bool b]⟩)) 0 = some (i64 n) := rfl
 have x1 : rdExtract (some (Value.tuple ⟨[i64 n, .bool b]⟩)) 1 = some (.bool b) := rfl
 simp only [stpF, x0, x1]
 cases b with
 | true =>
   simp only [stpF, bd_31_n]
   have hd : firstDig s = true := by
    rcases hnb rfl with h | h
    . cases h
    . exact h
   refine E ⟨1, [], n, 0⟩ true _ _ hb1 hA2 fun k hk => ?_
   rw [W (by cases hw : isWord s with | false => rfl | true => rw [(isWord_first hw).1] at hd; cases hd) (by cases hw : isVar s with | false => rfl | true => rw [(isVar_first hw).1] at hd; cases hd) k hk]
   rw [show decide (1 = k) = false by simp; omega]
   simp
 | false =>
 simp only [stpF]
 refine Wq.callK rfl (w_111 s hl H2 _ (.refl _ _)) hA2 fun u H3 nx3 hA3 k3 hu => ?_
 obtain ⟨u, b, rfl, hub⟩ := hu
 replace hb1 := IsB.ag hb1 k3 (by have := k2.1; omega)
 have x0 : rdExtract (some (Value.tuple ⟨[txt u, .bool b]⟩)) 0 = some (txt u) := rfl
 have x1 : rdExtract (some (Value.tuple ⟨[txt u, .bool b]⟩)) 1 = some (.bool b) := rfl
 simp only [stpF, x0, x1]
 cases b with
 | true =>
   simp only [stpF, bd_31_t]
   have hd : first s 34 = true := hub rfl
   refine E ⟨2, u, 0, 0⟩ true _ _ hb1 hA3 fun k hk => ?_
   rw [W (by cases hw : isWord s with | false => rfl | true => rw [(isWord_first hw).2.1] at hd; cases hd) (by cases hw : isVar s with | false => rfl | true => rw [(isVar_first hw).2.1] at hd; cases hd) k hk]
   rw [show decide (2 = k) = false by simp; omega]
   simp
 | false =>
 simp only [stpF]
 refine Wq.callB (pu_112 s hb) hA3 fun H4 nx4 hA4 n4 k4 => ?_
 replace hb1 := k4 _ _ _ (by have := k2.1; have := k3.1; omega) hb1
 simp only [stpF]
 cases hw : isWord s with
 | true =>
   simp only [stpF]
   have hf := isWord_first hw
   have hv : isVar s = false := by cases h : isVar s with
    | false => rfl
    | true => have := (isVar_first h).2.2; rw [hf.2.2] at this; cases this
   obtain ⟨a, r, rfl⟩ : ∃ a r, s = a :: r := by cases s with
    | nil => cases hw
    | cons a r => exact ⟨a, r, rfl⟩
   refine Wq.callB (pu_113 a r) hA4 fun H5 nx5 hA5 n5 k5 => ?_
   replace hb1 := k5 _ _ _ (by have := k2.1; have := k3.1; omega) hb1
   simp only [stpF, bd_31_t]
   refine E ⟨kindW (a :: r), a :: r, 0, 0⟩ true _ _ hb1 hA5 fun k hk => ?_
   rcases hk with rfl | rfl | rfl
   . rw [wordOk_3, hw]; simp
   . rw [wordOk_4, hw]; simp
   . rw [wordOk_5, hv]
     have : decide (kindW (a :: r) = 5) = false := by have := kindW_ne (a :: r); simp; omega
     simp [this]
 | false =>
 simp only [stpF]
 refine Wq.callB (pu_114 s hb) hA4 fun H5 nx5 hA5 n5 k5 => ?_
 replace hb1 := k5 _ _ _ (by have := k2.1; have := k3.1; omega) hb1
 simp only [stpF]
 cases hv : isVar s with
 | true =>
   simp only [stpF, bd_31_t]
   refine E ⟨5, s, 0, 0⟩ true _ _ hb1 hA5 fun k hk => ?_
   rcases hk with rfl | rfl | rfl
   . rw [wordOk_3, hw]; simp
   . rw [wordOk_4, hw]; simp
   . rw [wordOk_5, hv]; simp
 | false =>
 simp only [stpF]
 refine Wq.callB pu_116 hA5 fun H6 nx6 hA6 n6 k6 => ?_
 replace hb1 := k6 _ _ _ (by have := k2.1; have := k3.1; omega) hb1
 refine Wq.callB (pu_115 signsL (by decide) s) hA6 fun H7 nx7 hA7 n7 k7 => ?_
 replace hb1 := k7 _ _ _ (by have := k2.1; have := k3.1; omega) hb1
 simp only [stpF]
 cases signsL.contains s with
 | true =>
   simp only [stpF, bd_31_t]
   refine E ⟨7, s, 0, 0⟩ true _ _ hb1 hA7 fun k hk => ?_
   rw [W hw hv k hk, show decide (7 = k) = false by simp; omega]
   simp
 | false =>
   simp only [stpF]
   refine E ⟨0, [], 0, 0⟩ false _ _ hb1 hA7 fun k hk => ?_
   rw [W hw hv k hk]
   simp
theorem pu_64 (k : Int) (s : List UInt8) (hk : k = 3 \/ k = 4 \/ k = 5) : P0 64 [Tok.v ⟨k, s, 0, 0⟩] (txt s) := Pure.of rfl fun H nx => by
 rw [q64]
 refine Wq.natF' (.refl _ _) fun hA => ?_
 simp only [stpF, show decide (k = 0) = false by simp; omega, show decide (k = 1) = false by simp; omega, show decide (k = 2) = false by simp; omega]
 exact Wq.ret hA
theorem pu_36 (k : Int) (s : List UInt8) (hl : s.length <= 1000000) (hk : k = 3 \/ k = 4 \/ k = 5) : P0 36 [Tok.v ⟨k, s, 0, 0⟩] (.bool (wordOk k s)) := Pure.of rfl fun H nx => by
 rw [q36]
 refine Wq.natF' (.refl _ _) fun hA => ?_
 simp only [stpF, show decide (k = 0) = false by simp; omega, show decide (k = 1) = false by simp; omega]
 refine Wq.jmp (q36_10 ..) (fun _ => rfl) ?_
 simp only [stpF]
 refine Wq.call (pu_64 k s hk) hA fun H1 nx1 hA1 => ?_
 refine Wq.callR rfl (w_63 s hl H1 nx1 hA1) fun u H2 nx2 hA2 hu => ?_
 obtain ⟨t, b, rfl, _, h⟩ := hu
 have x0 : rdExtract (some (Value.tuple ⟨[t.v, .bool b]⟩)) 0 = some t.v := rfl
 have x1 : rdExtract (some (Value.tuple ⟨[t.v, .bool b]⟩)) 1 = some (.bool b) := rfl
 simp only [stpF, x0, x1]
 refine Wq.var zero_31 sz_31 rfl rfl rfl hA2 fun H3 nx3 hA3 => ?_
 rw [<- h k hk]
 cases b with
 | false => exact Wq.ret hA3
 | true =>
   simp only [stpF, txt_dec]
   rw [Bool.true_and]
   refine Wq.bK (fun h1 => ?_) (fun h1 => ?_)
   . rw [h1, Bool.true_and]
     refine Wq.bK (fun h2 => ?_) (fun h2 => ?_)
     . rw [h2, Bool.true_and]; exact Wq.ret hA3
     . rw [h2, Bool.false_and]; exact Wq.ret hA3
   . rw [h1, Bool.false_and]; exact Wq.ret hA3
theorem pu_88 (k : Int) (s : List UInt8) (hl : s.length <= 1000000) (hk : k = 3 \/ k = 4 \/ k = 5) : P0 88 [i64 k, txt s] (.bool (wordOk k s)) := Pure.of rfl fun H nx => by
 rw [q88]
 simp only [stpF, bd_31_t]
 refine Wq.call (pu_36 k s hl hk) (.refl _ _) fun H1 nx1 hA1 => ?_
 simp only [stpF]
 exact Wq.ret hA1
end
end Go.Proofs.YthjhonhhbddhkaaGreatDoor
/- How many parts trees have; which are right, as the document says. -/
namespace Go.Proofs.YthjhonhhbddhkaaGreatDoor
open Go.Ev Go.RowKit
noncomputable section
set_option maxRecDepth 100000
set_option linter.unusedVariables false
set_option linter.unusedSimpArgs false
variable {nx0 : Nat} {H0 : T OB}
mutual
def Pat.z : Pat -> Nat
 | .mk _ _ s l => 1 + s.length / 8 + patsZ l
def patsZ : List Pat -> Nat
 | [] => 0
 | p :: l => p.z + patsZ l
end
mutual
def TyS.z : TyS -> Nat
 | .mk _ s l => 1 + s.length / 8 + tysZ l
def tysZ : List TyS -> Nat
 | [] => 0
 | p :: l => p.z + tysZ l
end
def Con.z (c : Con) : Nat := 1 + c.s.length / 8 + tysZ c.arg
def strsZ : List (List UInt8) -> Nat
 | [] => 0
 | s :: l => 1 + s.length / 8 + strsZ l
def consZ : List Con -> Nat
 | [] => 0
 | c :: l => c.z + consZ l
def Data.z (x : Data) : Nat := strsZ x.vars + x.s.length / 8 + consZ x.cons
mutual
def Exp.z : Exp -> Nat
 | .mk _ _ s l p d => 1 + s.length / 8 + expsZ l + patsZ p + decsZ d
def Dec.z : Dec -> Nat
 | .mk _ p e f x c => 1 + p.z + e.z + fnsZ f + x.z + c.z
def Fn.z : Fn -> Nat
 | .mk s p b => 1 + s.length / 8 + b.z + patsZ p
def expsZ : List Exp -> Nat
 | [] => 0
 | e :: l => e.z + expsZ l
def decsZ : List Dec -> Nat
 | [] => 0
 | e :: l => e.z + decsZ l
def fnsZ : List Fn -> Nat
 | [] => 0
 | e :: l => e.z + fnsZ l
end
theorem Pat.z_eq (p : Pat) : p.z = 1 + p.s.length / 8 + patsZ p.l := by cases p; rw [Pat.z]; rfl
theorem TyS.z_eq (p : TyS) : p.z = 1 + p.s.length / 8 + tysZ p.l := by cases p; rw [TyS.z]; rfl
theorem Exp.z_eq (e : Exp) : e.z = 1 + e.s.length / 8 + expsZ e.l + patsZ e.p + decsZ e.d := by cases e; rw [Exp.z]; rfl
theorem Dec.z_eq (d : Dec) : d.z = 1 + d.p.z + d.e.z + fnsZ d.f + d.x.z + d.c.z := by cases d; rw [Dec.z]; rfl
theorem Fn.z_eq (f : Fn) : f.z = 1 + f.s.length / 8 + f.b.z + patsZ f.p := by cases f; rw [Fn.z]; rfl
theorem patsZ_mem {l : List Pat} {c : Pat} (h : c ∈ l) : c.z <= patsZ l := by
 induction l with
 | nil => cases h
 | cons a l ih =>
   rw [patsZ]
   rcases List.mem_cons.1 h with rfl | h
   . omega
   . have := ih h; omega
theorem patsZ_len (l : List Pat) : l.length <= patsZ l := by
 induction l with
 | nil => simp
 | cons a l ih =>
   rw [patsZ, List.length_cons]
   have : 1 <= a.z := by rw [Pat.z_eq]; omega
   omega
theorem tysZ_mem {l : List TyS} {c : TyS} (h : c ∈ l) : c.z <= tysZ l := by
 induction l with
 | nil => cases h
 | cons a l ih =>
   rw [tysZ]
   rcases List.mem_cons.1 h with rfl | h
   . omega
   . have := ih h; omega
theorem tysZ_len (l : List TyS) : l.length <= tysZ l := by
 induction l with
 | nil => simp
 | cons a l ih =>
   rw [tysZ, List.length_cons]
   have : 1 <= a.z := by rw [TyS.z_eq]; omega
   omega
theorem expsZ_mem {l : List Exp} {c : Exp} (h : c ∈ l) : c.z <= expsZ l := by
 induction l with
 | nil => cases h
 | cons a l ih =>
   rw [expsZ]
   rcases List.mem_cons.1 h with rfl | h
   . omega
   . have := ih h; omega
theorem expsZ_len (l : List Exp) : l.length <= expsZ l := by
 induction l with
 | nil => simp
 | cons a l ih =>
   rw [expsZ, List.length_cons]
   have : 1 <= a.z := by rw [Exp.z_eq]; omega
   omega
theorem decsZ_mem {l : List Dec} {c : Dec} (h : c ∈ l) : c.z <= decsZ l := by
 induction l with
 | nil => cases h
 | cons a l ih =>
   rw [decsZ]
   rcases List.mem_cons.1 h with rfl | h
   . omega
   . have := ih h; omega
theorem decsZ_len (l : List Dec) : l.length <= decsZ l := by
 induction l with
 | nil => simp
 | cons a l ih =>
   rw [decsZ, List.length_cons]
   have : 1 <= a.z := by rw [Dec.z_eq]; omega
   omega
theorem fnsZ_mem {l : List Fn} {c : Fn} (h : c ∈ l) : c.z <= fnsZ l := by
 induction l with
 | nil => cases h
 | cons a l ih =>
   rw [fnsZ]
   rcases List.mem_cons.1 h with rfl | h
   . omega
   . have := ih h; omega
theorem fnsZ_len (l : List Fn) : l.length <= fnsZ l := by
 induction l with
 | nil => simp
 | cons a l ih =>
   rw [fnsZ, List.length_cons]
   have : 1 <= a.z := by rw [Fn.z_eq]; omega
   omega
theorem consZ_mem {l : List Con} {c : Con} (h : c ∈ l) : c.z <= consZ l := by
 induction l with
 | nil => cases h
 | cons a l ih =>
   rw [consZ]
   rcases List.mem_cons.1 h with rfl | h
   . omega
   . have := ih h; omega
theorem consZ_len (l : List Con) : l.length <= consZ l := by
 induction l with
 | nil => simp
 | cons a l ih =>
   rw [consZ, List.length_cons]
   have : 1 <= a.z := by unfold Con.z; omega
   omega
theorem strsZ_mem {l : List (List UInt8)} {c : List UInt8} (h : c ∈ l) : c.length / 8 <= strsZ l := by
 induction l with
 | nil => cases h
 | cons a l ih =>
   rw [strsZ]
   rcases List.mem_cons.1 h with rfl | h
   . omega
   . have := ih h; omega
theorem strsZ_len (l : List (List UInt8)) : l.length <= strsZ l := by
 induction l with
 | nil => simp
 | cons a l ih => rw [strsZ, List.length_cons]; omega
def patHd (k n : Int) (s : List UInt8) (l : List Pat) : Bool :=
 (decide (k = 3) || decide (n = 0)) && (
 if k = 1 then decide (s = []) && decide (l.length = 0)
 else if k = 2 then wordOk 3 s && decide (l.length = 0)
 else if k = 3 then decide (s = []) && (decide (l.length = 0) && (decide (-4611686018427387903 <= n) && decide (n <= 4611686018427387903)))
 else if k = 4 then decide (l.length = 0)
 else if k = 5 then decide (s = []) && !decide (l.length = 1)
 else if k = 6 then if s = [58, 58] then (match l with | [q] => decide (q.k = 5) && decide (q.l.length = 2) | _ => false) else wordOk 4 s && decide (l.length <= 1)
 else false)
mutual
def patR : Pat -> Bool
 | .mk k n s l => patsRt l && patHd k n s l
def patsRt : List Pat -> Bool
 | [] => true
 | p :: l => patR p && patsRt l
end
theorem patR_eq (p : Pat) : patR p = (patsRt p.l && patHd p.k p.n p.s p.l) := by cases p; rw [patR]; rfl
def tyHd (k : Int) (s : List UInt8) (n : Nat) : Bool :=
 if k = 1 then decide (n = 0) && wordOk 5 s
 else if k = 2 then decide (s = [114, 101, 102]) || wordOk 3 s
 else if k = 3 then decide (n = 2) && decide (s = [])
 else if k = 4 then decide (2 <= n) && decide (s = []) else false
mutual
def tyR : TyS -> Bool
 | .mk k s l => tysRt l && tyHd k s l.length
def tysRt : List TyS -> Bool
 | [] => true
 | p :: l => tyR p && tysRt l
end
theorem tyR_eq (p : TyS) : tyR p = (tysRt p.l && tyHd p.k p.s p.l.length) := by cases p; rw [tyR]; rfl
def conR (c : Con) : Bool := wordOk 4 c.s && (decide (c.arg.length <= 1) && tysRt c.arg)
def consRt : List Con -> Bool
 | [] => true
 | c :: l => conR c && consRt l
def varsRt : List (List UInt8) -> Bool
 | [] => true
 | s :: l => wordOk 5 s && varsRt l
def bareE (e : Exp) : Exp := .mk e.k (if e.k = 1 then e.n else 0) (if e.k = 2 \/ e.k = 3 \/ e.k = 4 \/ e.k = 14 \/ e.k = 15 then e.s else []) (if e.k = 1 \/ e.k = 2 \/ e.k = 3 \/ e.k = 4 then [] else e.l) (if e.k = 7 \/ e.k = 9 \/ e.k = 12 then e.p else []) (if e.k = 10 then e.d else [])
abbrev pat0 : Pat := .mk 0 0 [] []
abbrev exp0 : Exp := .mk 0 0 [] [] [] []
abbrev data0 : Data := ⟨[], [], []⟩
abbrev con0 : Con := ⟨[], []⟩
def bareD (d : Dec) : Dec := .mk d.k (if d.k = 1 then d.p else pat0) (if d.k = 1 \/ d.k = 5 then d.e else exp0) (if d.k = 2 then d.f else []) (if d.k = 3 then d.x else data0) (if d.k = 4 then d.c else con0)
def expHd (k n : Int) (s : List UInt8) (len np : Nat) (ds : List Dec) : Bool :=
 if k = 1 then decide (0 <= n) && decide (n <= 4611686018427387903)
 else if k = 2 then true
 else if k = 3 then wordOk 3 s
 else if k = 4 then wordOk 4 s
 else if k = 5 then !decide (len = 1)
 else if k = 13 then decide (1 < len)
 else if k = 6 then decide (len = 2)
 else if k = 7 then decide (0 < len) && decide (np = len)
 else if k = 8 then decide (len = 3)
 else if k = 9 \/ k = 12 then decide (1 < len) && decide (np + 1 = len)
 else if k = 11 then decide (len = 1)
 else if k = 14 then decide (len = 2) && binsL.contains s
 else if k = 15 then decide (len = 1) && wordsL.contains s
 else if k = 10 then (ds.all fun d => decide (d.k = 1) || decide (d.k = 2)) && decide (len = 1)
 else false
mutual
def expR : Exp -> Bool
 | .mk k n s l p d => expsRt l && (eqb (bareE (.mk k n s l p d)) (.mk k n s l p d) && (patsRt p && (decsRt d && expHd k n s l.length p.length d)))
def decR : Dec -> Bool
 | .mk k p e f x c => if k = 1 then eqb (bareD (.mk k p e f x c)) (.mk k p e f x c) && (patR p && expR e)
   else if k = 5 then eqb (bareD (.mk k p e f x c)) (.mk k p e f x c) && expR e
   else if k = 2 then fnsRt f && (decide (0 < f.length) && eqb (bareD (.mk k p e f x c)) (.mk k p e f x c))
   else if k = 3 then varsRt x.vars && (consRt x.cons && (wordOk 3 x.s && (decide (0 < x.cons.length) && eqb (bareD (.mk k p e f x c)) (.mk k p e f x c))))
   else if k = 4 then conR c && eqb (bareD (.mk k p e f x c)) (.mk k p e f x c)
   else false
def fnR : Fn -> Bool
 | .mk s p b => wordOk 3 s && (decide (0 < p.length) && (patsRt p && expR b))
def expsRt : List Exp -> Bool
 | [] => true
 | e :: l => expR e && expsRt l
def decsRt : List Dec -> Bool
 | [] => true
 | e :: l => decR e && decsRt l
def fnsRt : List Fn -> Bool
 | [] => true
 | e :: l => fnR e && fnsRt l
end
theorem expR_eq (e : Exp) : expR e = (expsRt e.l && (eqb (bareE e) e && (patsRt e.p && (decsRt e.d && expHd e.k e.n e.s e.l.length e.p.length e.d)))) := by cases e; rw [expR]; rfl
theorem fnR_eq (e : Fn) : fnR e = (wordOk 3 e.s && (decide (0 < e.p.length) && (patsRt e.p && expR e.b))) := by cases e; rw [fnR]; rfl
theorem decR_eq (d : Dec) : decR d = (if d.k = 1 then eqb (bareD d) d && (patR d.p && expR d.e)
 else if d.k = 5 then eqb (bareD d) d && expR d.e
 else if d.k = 2 then fnsRt d.f && (decide (0 < d.f.length) && eqb (bareD d) d)
 else if d.k = 3 then varsRt d.x.vars && (consRt d.x.cons && (wordOk 3 d.x.s && (decide (0 < d.x.cons.length) && eqb (bareD d) d)))
 else if d.k = 4 then conR d.c && eqb (bareD d) d else false) := by cases d; rw [decR]; rfl
end
end Go.Proofs.YthjhonhhbddhkaaGreatDoor
/- The document: which patterns, types and constructors are right. -/
namespace Go.Proofs.YthjhonhhbddhkaaGreatDoor
open Go.Ev Go.RowKit
noncomputable section
set_option maxRecDepth 100000
set_option linter.unusedVariables false
set_option linter.unusedSimpArgs false
variable {nx0 : Nat} {H0 : T OB}
theorem pu_89 (l : List Pat) (hl : l.length < big) (ih : ∀ a, a ∈ l -> P0 86 [a.v] (.bool (patR a))) : P0 89 [patsR l] (.bool (patsRt l)) := Pure.of rfl fun H nx => by
 rw [q89]
 refine Wq.each (l) (fun i (_ : Unit) H nx => .jump (l89_7 (patsR l) (i64 (i : Int)) H nx)) (fun t (_ : Unit) => .bool (patsRt t)) (fun s0 H0 nx0 hA0 => ?_) (fun i0 a0 t0 s0 H0 nx0 hg0 hlt0 hd0 hA0 ih0 => ?_) (()) _ _ (.refl _ _)
 . refine Wq.jmp (q89_7 ..) (fun _ => rfl) ?_
   simp only [stpF, sttF, List.length_map, not_lt_len]
   exact Wq.ret hA0
 . have hx0 : ((l).map Pat.v)[i0]? = some (Pat.v a0) := by simp [hg0]
   have hm0 := List.mem_of_getElem? hg0
   refine Wq.jmp (q89_7 ..) (fun _ => rfl) ?_
   simp only [stpF, sttF, List.length_map, is_lt_len hlt0, ix_42 hx0]
   refine Wq.call (ih a0 hm0) hA0 fun H2 nx2 hA2 => ?_
   rw [patsRt]
   cases patR a0 with
   | false => simp only [stpF, Bool.false_and]; exact Wq.ret hA2
   | true =>
     simp only [stpF, Bool.true_and, wrap_succ (show i0 < 9223372036854775807 by have := sm_lt hl; omega)]
     exact ih0 () _ _ hA2
theorem nat_eq0 (n : Nat) : decide ((n : Int) = 0) = decide (n = 0) := by rw [decide_eq_decide]; omega
theorem nat_eq (n : Nat) (m : Nat) : decide ((n : Int) = (m : Int)) = decide (n = m) := by rw [decide_eq_decide]; omega
theorem nat_eq1 (n : Nat) : decide ((n : Int) = 1) = decide (n = 1) := nat_eq n 1
theorem nat_eq2 (n : Nat) : decide ((n : Int) = 2) = decide (n = 2) := nat_eq n 2
theorem nat_eq3 (n : Nat) : decide ((n : Int) = 3) = decide (n = 3) := nat_eq n 3
theorem nat_le1 (n : Nat) : decide ((n : Int) <= 1) = decide (n <= 1) := by rw [decide_eq_decide]; omega
theorem nat_ge2 (n : Nat) : decide (2 <= (n : Int)) = decide (2 <= n) := by rw [decide_eq_decide]; omega
theorem nat_gt1 (n : Nat) : decide (1 < (n : Int)) = decide (1 < n) := by rw [decide_eq_decide]; omega
theorem nat_gt0 (n : Nat) : decide (0 < (n : Int)) = decide (0 < n) := by rw [decide_eq_decide]; omega
theorem pu_86a (p : Pat) (hs : p.s.length <= 1000000) (ih : P0 89 [patsR p.l] (.bool (patsRt p.l))) : P0 86 [p.v] (.bool (patR p)) := Pure.of rfl fun H nx => by
 rw [q86, patR_eq]
 refine Wq.natF' (.refl _ _) fun hA => ?_
 simp only [stpF, sttF, List.length_map]
 refine Wq.call ih hA fun H1 nx1 hA1 => ?_
 have Lt : ∀ H1 nx1, Ag nx H nx1 H1 -> Wq P pl X0 (.jump (l86_6 (eptrV p.v) true H1 nx1)) nx H (.bool false) := by
  intro H1 nx1 hA1
  refine Wq.jmp (q86_6 ..) (fun _ => rfl) ?_
  exact Wq.ret hA1
 cases h0 : patsRt p.l with
 | false => simp only [stpF]; exact Lt _ _ hA1
 | true =>
 rw [Bool.true_and]
 unfold patHd
 have Lf : (decide (p.k = 3) || decide (p.n = 0)) = true -> Wq P pl X0 (.jump (l86_6 (eptrV p.v) false H1 nx1)) nx H (.bool ((decide (p.k = 3) || decide (p.n = 0)) && (
  if p.k = 1 then decide (p.s = []) && decide (p.l.length = 0)
  else if p.k = 2 then wordOk 3 p.s && decide (p.l.length = 0)
  else if p.k = 3 then decide (p.s = []) && (decide (p.l.length = 0) && (decide (-4611686018427387903 <= p.n) && decide (p.n <= 4611686018427387903)))
  else if p.k = 4 then decide (p.l.length = 0)
  else if p.k = 5 then decide (p.s = []) && !decide (p.l.length = 1)
  else if p.k = 6 then if p.s = [58, 58] then (match p.l with | [q] => decide (q.k = 5) && decide (q.l.length = 2) | _ => false) else wordOk 4 p.s && decide (p.l.length <= 1)
  else false))) := by
  intro h
  rw [h, Bool.true_and]
  refine Wq.jmp (q86_6 ..) (fun _ => rfl) ?_
  simp only [stpF, sttF, List.length_map, txt_dec, nat_eq0, nat_eq1, nat_le1]
  refine Wq.ite (fun g => ?_) (fun g1 => ?_)
  . rw [if_pos g]
    refine Wq.bK (fun h => ?_) (fun h => ?_)
    . rw [h, Bool.true_and]; exact Wq.ret hA1
    . rw [h, Bool.false_and]; exact Wq.ret hA1
  rw [if_neg g1]
  refine Wq.ite (fun g => ?_) (fun g2 => ?_)
  . rw [if_pos g]
    refine Wq.call (pu_88 3 _ hs (by simp)) hA1 fun H2 nx2 hA2 => ?_
    simp only [stpF]
    refine Wq.bK (fun h => ?_) (fun h => ?_)
    . rw [h, Bool.true_and]; exact Wq.ret hA2
    . rw [h, Bool.false_and]; exact Wq.ret hA2
  rw [if_neg g2]
  refine Wq.ite (fun g => ?_) (fun g3 => ?_)
  . rw [if_pos g]
    refine Wq.bK (fun h => ?_) (fun h => ?_)
    . rw [h, Bool.true_and]
      refine Wq.bK (fun h => ?_) (fun h => ?_)
      . rw [h, Bool.true_and]
        refine Wq.bK (fun h => ?_) (fun h => ?_)
        . rw [h, Bool.true_and]; exact Wq.ret hA1
        . rw [h, Bool.false_and]; exact Wq.ret hA1
      . rw [h, Bool.false_and]; exact Wq.ret hA1
    . rw [h, Bool.false_and]; exact Wq.ret hA1
  rw [if_neg g3]
  refine Wq.ite (fun g => ?_) (fun g4 => ?_)
  . rw [if_pos g]; exact Wq.ret hA1
  rw [if_neg g4]
  refine Wq.ite (fun g => ?_) (fun g5 => ?_)
  . rw [if_pos g]
    refine Wq.bK (fun h => ?_) (fun h => ?_)
    . rw [h, Bool.true_and]; exact Wq.ret hA1
    . rw [h, Bool.false_and]; exact Wq.ret hA1
  rw [if_neg g5]
  refine Wq.ite (fun g => ?_) (fun g6 => ?_)
  . rw [if_pos g]
    refine Wq.ite (fun g7 => ?_) (fun g7 => ?_)
    . rw [if_pos g7]
      match hl : p.l with
      | [] => simp only [stpF]; exact Wq.ret hA1
      | [q] =>
        have hx : (p.l.map Pat.v)[0]? = some q.v := by rw [hl]; rfl
        have hx' := ix_42 hx .i64
        rw [show ((0 : Nat) : Int) = 0 from rfl] at hx'
        rw [hl] at hx'
        simp only [stpF, sttF, List.length_map, List.length_cons, List.length_nil, hx', nat_eq2]
        refine Wq.bK (fun h => ?_) (fun h => ?_)
        . rw [h, Bool.true_and]; exact Wq.ret hA1
        . rw [h, Bool.false_and]; exact Wq.ret hA1
      | q :: q' :: r =>
        simp only [stpF, show decide ((q :: q' :: r).length = 1) = false by simp]
        exact Wq.ret hA1
    . rw [if_neg g7]
      refine Wq.call (pu_88 4 _ hs (by simp)) hA1 fun H2 nx2 hA2 => ?_
      simp only [stpF]
      refine Wq.bK (fun h => ?_) (fun h => ?_)
      . rw [h, Bool.true_and]; exact Wq.ret hA2
      . rw [h, Bool.false_and]; exact Wq.ret hA2
  . rw [if_neg g6]; exact Wq.ret hA1
 simp only [stpF]
 refine Wq.nite (fun h3 => ?_) (fun h3 => Lf (by simp [h3]))
 by_cases hn : p.n = 0
 . have e : decide (p.n = 0) = true := by simp [hn]
   rw [e] at Lf ⊢
   simp only [stpF]
   exact Lf (by simp)
 . have e : decide (p.n = 0) = false := by simp [hn]
   have e3 : decide (p.k = 3) = false := by simp [h3]
   rw [e, e3]
   simp only [stpF]
   exact Lt _ _ hA1
theorem pu_86 (p : Pat) (hp : p.ok) (hz : p.z <= 500) : P0 86 [p.v] (.bool (patR p)) := by
 refine Pat.ind (p := fun p => p.ok -> p.z <= 500 -> P0 86 [p.v] (.bool (patR p))) (fun p ih hp hz => ?_) p hp hz
 rw [Pat.ok_iff] at hp
 rw [Pat.z_eq] at hz
 exact pu_86a p (by omega) (pu_89 p.l hp.2.2.1 fun a ha => ih a ha (hp.2.2.2 a ha) (by have := patsZ_mem ha; omega))
theorem pu_89' (l : List Pat) (hl : l.length < big) (h : ∀ a, a ∈ l -> a.ok) (hz : patsZ l <= 500) : P0 89 [patsR l] (.bool (patsRt l)) := pu_89 l hl fun a ha => pu_86 a (h a ha) (by have := patsZ_mem ha; omega)
theorem pu_143a (p : TyS) (hs : p.s.length <= 1000000) (hl : p.l.length < big) (ih : ∀ a, a ∈ p.l -> P0 143 [a.v] (.bool (tyR a))) : P0 143 [p.v] (.bool (tyR p)) := Pure.of rfl fun H nx => by
 rw [q143, tyR_eq]
 refine Wq.natF' (.refl _ _) fun hA => ?_
 refine Wq.each (p.l) (fun i (_ : Unit) H nx => .jump (l143_7 (eptrV p.v) (i64 (i : Int)) H nx)) (fun t (_ : Unit) => .bool (tysRt t && tyHd p.k p.s p.l.length)) (fun s0 H0 nx0 hA0 => ?_) (fun i0 a0 t0 s0 H0 nx0 hg0 hlt0 hd0 hA0 ih0 => ?_) (()) _ _ hA
 . refine Wq.jmp (q143_7 ..) (fun _ => rfl) ?_
   simp only [stpF, sttF, List.length_map, not_lt_len]
   rw [tysRt, Bool.true_and]
   unfold tyHd
   simp only [stpF, nat_eq0, nat_eq2, nat_ge2, txt_dec]
   refine Wq.ite (fun g => ?_) (fun g1 => ?_)
   . rw [if_pos g]
     refine Wq.bK (fun h => ?_) (fun h => ?_)
     . rw [h, Bool.true_and]
       refine Wq.call (pu_88 5 _ hs (by simp)) hA0 fun H2 nx2 hA2 => ?_
       simp only [stpF]
       exact Wq.ret hA2
     . rw [h, Bool.false_and]; exact Wq.ret hA0
   rw [if_neg g1]
   refine Wq.ite (fun g => ?_) (fun g2 => ?_)
   . rw [if_pos g]
     refine Wq.bK (fun h => ?_) (fun h => ?_)
     . rw [h, Bool.true_or]; exact Wq.ret hA0
     . rw [h, Bool.false_or]
       refine Wq.call (pu_88 3 _ hs (by simp)) hA0 fun H2 nx2 hA2 => ?_
       simp only [stpF]
       exact Wq.ret hA2
   rw [if_neg g2]
   refine Wq.ite (fun g => ?_) (fun g3 => ?_)
   . rw [if_pos g]
     refine Wq.bK (fun h => ?_) (fun h => ?_)
     . rw [h, Bool.true_and]; exact Wq.ret hA0
     . rw [h, Bool.false_and]; exact Wq.ret hA0
   rw [if_neg g3]
   refine Wq.ite (fun g => ?_) (fun g4 => ?_)
   . rw [if_pos g]
     refine Wq.bK (fun h => ?_) (fun h => ?_)
     . rw [h, Bool.true_and]; exact Wq.ret hA0
     . rw [h, Bool.false_and]; exact Wq.ret hA0
   . rw [if_neg g4]; exact Wq.ret hA0
 . have hx0 : ((p.l).map TyS.v)[i0]? = some (TyS.v a0) := by simp [hg0]
   have hm0 := List.mem_of_getElem? hg0
   refine Wq.jmp (q143_7 ..) (fun _ => rfl) ?_
   simp only [stpF, sttF, List.length_map, is_lt_len hlt0, ix_53 hx0]
   refine Wq.call (ih a0 hm0) hA0 fun H2 nx2 hA2 => ?_
   rw [tysRt]
   cases tyR a0 with
   | false => simp only [stpF, Bool.false_and]; exact Wq.ret hA2
   | true =>
     simp only [stpF, Bool.true_and, wrap_succ (show i0 < 9223372036854775807 by have := sm_lt hl; omega)]
     exact ih0 () _ _ hA2
theorem pu_143 (p : TyS) (hp : p.ok) (hz : p.z <= 500) : P0 143 [p.v] (.bool (tyR p)) := by
 refine TyS.ind (p := fun p => p.ok -> p.z <= 500 -> P0 143 [p.v] (.bool (tyR p))) (fun p ih hp hz => ?_) p hp hz
 rw [TyS.ok_iff] at hp
 rw [TyS.z_eq] at hz
 exact pu_143a p (by omega) hp.2.1 fun a ha => ih a ha (hp.2.2 a ha) (by have := tysZ_mem ha; omega)
theorem pu_90 (c : Con) (hc : c.ok) (hz : c.z <= 500) : P0 90 [c.v] (.bool (conR c)) := Pure.of rfl fun H nx => by
 unfold Con.z at hz
 have hs : c.s.length <= 1000000 := by omega
 rw [q90]
 unfold conR
 refine Wq.natF' (.refl _ _) fun hA => ?_
 simp only [stpF, sttF, List.length_map, nat_le1, nat_eq0]
 refine Wq.call (pu_88 4 _ hs (by simp)) hA fun H2 nx2 hA2 => ?_
 simp only [stpF]
 refine Wq.bK (fun h => ?_) (fun h => ?_)
 . rw [h, Bool.true_and]
   match hl : c.arg with
   | [] => simp only [stpF]; exact Wq.ret hA2
   | [t] =>
     have hx : (c.arg.map TyS.v)[0]? = some t.v := by rw [hl]; rfl
     have hx' := ix_53 hx .i64
     rw [show ((0 : Nat) : Int) = 0 from rfl] at hx'
     rw [hl] at hx'
     simp only [stpF, sttF, List.length_map, show decide ([t].length <= 1) = true by simp, show decide ([t].length = 0) = false by simp, hx']
     refine Wq.call (pu_143 t (hc.2.2 t (by rw [hl]; simp)) (by rw [hl] at hz; simp only [tysZ] at hz; omega)) hA2 fun H3 nx3 hA3 => ?_
     simp only [stpF]
     refine Wq.retE ?_ hA3
     rw [tysRt, tysRt, Bool.and_true, Bool.true_and]
   | t :: t' :: r =>
     simp only [stpF, show decide ((t :: t' :: r).length <= 1) = false by simp]
     exact Wq.ret hA2
 . rw [h, Bool.false_and]; exact Wq.ret hA2
end
end Go.Proofs.YthjhonhhbddhkaaGreatDoor
/- The document: an expression with what its kind names alone. -/
namespace Go.Proofs.YthjhonhhbddhkaaGreatDoor
open Go.Ev Go.RowKit
noncomputable section
set_option maxRecDepth 100000
set_option linter.unusedVariables false
set_option linter.unusedSimpArgs false
variable {nx0 : Nat} {H0 : T OB}
theorem bd_44 (k : Int) (l : List Value) : rdBuild P 44 (some [(0, i64 k), (3, rowV 6 l)]) = some (.agg ⟨[i64 k, i64 0, txt [], rowV 6 l, .slice none 0 0, .slice none 0 0]⟩) := rdBuild_of zero_44 (by kernel_rfl)
abbrev nilS : Value := .slice none 0 0
theorem w_141 (e : Exp) (H : T OB) (nx : Nat) (hA : Ag nx0 H0 nx H) : WqR P pl X0 (evT P pl (.call 141 [e.v] false none H nx)) nx0 H0 (fun v _ _ => VExp (bareE e) v) := by
 rw [q141]
 refine Wq.natF' hA fun hA => ?_
 refine Wq.alloc zero_44 hA fun H1 hb0 _ hA1 => ?_
 simp only [stpF, sttF, List.length_map, bd_44]
 refine Wq.alloc zero_44 hA1 fun H2 hb6 k2 hA2 => ?_
 replace hb0 := k2 _ _ _ (by omega) hb0
 refine Wq.store hb6 sz_44 (by simp) rfl rfl hA2 (by have := hA.1; omega) fun H3 hb6 k3 hA3 => ?_
 replace hb0 := k3 _ _ _ (by omega) hb0
 replace hb6 : IsB H3 (nx + 1 + 1) [i64 e.k, i64 0, txt [], expsR e.l, nilS, nilS] 44 := hb6
 clear k2 k3 hA1 hA2
 have hn0 : nx0 <= nx + 1 := hA.1
 have E : ∀ (a b c d f g : Value) H' nx', IsB H' (nx + 1 + 1) [a, b, c, d, f, g] 44 -> IsB H' (nx + 1) [i64 0, i64 0, txt [], nilS, nilS, nilS] 44 -> oneCell a = true -> oneCell b = true -> oneCell c = true -> oneCell d = true -> oneCell f = true -> oneCell g = true -> Ag nx0 H0 nx' H' -> VExp (bareE e) (.agg ⟨[a, b, c, d, f, g]⟩) ->
  WqR P pl X0 (optK (rdLoad P H' 44 (some (.pointer (some ⟨nx + 1 + 1, 0, none⟩)))) (fun x => effQ (efStore P H' nx' 44 (some (.pointer (some ⟨nx + 1, 0, none⟩))) (some x)) (fun _ H nx'' => optK (rdLoad P H 44 (some (.pointer (some ⟨nx + 1, 0, none⟩)))) (fun x => .ret ⟨.ret x, false, H, nx''⟩) .bad)) .bad) nx0 H0 (fun v _ _ => VExp (bareE e) v) := by
  intro a b c d f g H' nx' h6 h0 oa ob oc od of og hA' hV
  rw [rdLoad_agg h6 agg_44 sz_44 (by simp)]
  refine Wq.store h0 sz_44 (by simp) rfl (by simp [Value.cells, oa, ob, oc, od, of, og]) hA' hn0 fun H4 hb _ hA4 => ?_
  have hb' : IsB H4 (nx + 1) [a, b, c, d, f, g] 44 := hb
  rw [rdLoad_agg hb' agg_44 sz_44 (by simp)]
  exact Wq.retR hA4 hV
 refine Wq.ite (fun g1 => ?_) (fun g1 => ?_)
 . simp only [stpF, fp_44_1]
   refine Wq.put hb6 sz_2 rfl rfl (by simp) rfl hA3 (by omega) fun H4 hb6 k4 hA4 => ?_
   replace hb0 := k4 _ _ _ (by omega) hb0
   refine Wq.put hb6 sz_41 rfl rfl (by simp) rfl hA4 (by omega) fun H5 hb6 k5 hA5 => ?_
   replace hb0 := k5 _ _ _ (by omega) hb0
   refine Wq.jmp (q141_42 ..) (fun _ => rfl) ?_
   refine E _ _ _ _ _ _ _ _ hb6 hb0 rfl rfl rfl rfl rfl rfl hA5 ?_
   unfold bareE
   simp only [g1]
   exact ⟨_, _, _, rfl, IsR.nil 6, IsR.nil 4, IsR.nil 17⟩
 have L36 : ∀ (b : Bool), b = (decide (e.k = 7) || (decide (e.k = 9) || decide (e.k = 12))) -> e.k ≠ 2 -> e.k ≠ 3 -> e.k ≠ 4 -> e.k ≠ 14 -> e.k ≠ 15 -> WqR P pl X0 (.jump (l141_36 (eptrV e.v) (.pointer (some ⟨nx + 1, 0, none⟩)) (.pointer (some ⟨nx + 1 + 1, 0, none⟩)) (i64 e.k) b H3 (nx + 1 + 1 + 1))) nx0 H0 (fun v _ _ => VExp (bareE e) v) := by
  intro b hb h2 h3 h4 h14 h15
  refine Wq.jmp (q141_36 ..) (fun _ => rfl) ?_
  cases b with
  | true =>
    simp only [stpF, sttF, List.length_map, fp_44_4]
    refine Wq.put hb6 sz_42 rfl rfl (by simp) rfl hA3 (by omega) fun H4 hb6 k4 hA4 => ?_
    replace hb0 := k4 _ _ _ (by omega) hb0
    refine E _ _ _ _ _ _ _ _ hb6 hb0 rfl rfl rfl rfl rfl rfl hA4 ?_
    have hk : e.k = 7 \/ e.k = 9 \/ e.k = 12 := by
     simp only [Bool.true_eq, Bool.or_eq_true, decide_eq_true_eq] at hb
     exact hb
    refine ⟨_, _, _, ?_, (show IsR 6 ((bareE e).l.map Exp.v) (expsR e.l) from ?_), (show IsR 4 ((bareE e).p.map Pat.v) (patsR e.p) from ?_), (show IsR 17 ((bareE e).d.map Dec.v) nilS from ?_)⟩
    . show _ = Value.agg ⟨[i64 e.k, i64 (if e.k = 1 then e.n else 0), txt (if e.k = 2 \/ e.k = 3 \/ e.k = 4 \/ e.k = 14 \/ e.k = 15 then e.s else []), _, _, _]⟩
      rw [if_neg g1, if_neg (by omega)]
    . show IsR 6 ((if e.k = 1 \/ e.k = 2 \/ e.k = 3 \/ e.k = 4 then [] else e.l).map Exp.v) _
      rw [if_neg (by omega)]; exact .row _ _
    . show IsR 4 ((if e.k = 7 \/ e.k = 9 \/ e.k = 12 then e.p else []).map Pat.v) _
      rw [if_pos hk]; exact .row _ _
    . show IsR 17 ((if e.k = 10 then e.d else []).map Dec.v) _
      rw [if_neg (by omega)]; exact .nil _
  | false =>
    have hk : ¬(e.k = 7 \/ e.k = 9 \/ e.k = 12) := by
     simp only [Bool.false_eq, Bool.or_eq_false_iff, decide_eq_false_iff_not] at hb
     omega
    simp only [stpF, sttF, List.length_map, fp_44_5]
    refine Wq.ite (fun g10 => ?_) (fun g10 => ?_)
    . refine Wq.put hb6 sz_24 rfl rfl (by simp) rfl hA3 (by omega) fun H4 hb6 k4 hA4 => ?_
      replace hb0 := k4 _ _ _ (by omega) hb0
      refine E _ _ _ _ _ _ _ _ hb6 hb0 rfl rfl rfl rfl rfl rfl hA4 ?_
      refine ⟨_, _, _, ?_, (show IsR 6 ((bareE e).l.map Exp.v) (expsR e.l) from ?_), (show IsR 4 ((bareE e).p.map Pat.v) nilS from ?_), (show IsR 17 ((bareE e).d.map Dec.v) (decsR e.d) from ?_)⟩
      . show _ = Value.agg ⟨[i64 e.k, i64 (if e.k = 1 then e.n else 0), txt (if e.k = 2 \/ e.k = 3 \/ e.k = 4 \/ e.k = 14 \/ e.k = 15 then e.s else []), _, _, _]⟩
        rw [if_neg g1, if_neg (by omega)]
      . show IsR 6 ((if e.k = 1 \/ e.k = 2 \/ e.k = 3 \/ e.k = 4 then [] else e.l).map Exp.v) _
        rw [if_neg (by omega)]; exact .row _ _
      . show IsR 4 ((if e.k = 7 \/ e.k = 9 \/ e.k = 12 then e.p else []).map Pat.v) _
        rw [if_neg hk]; exact .nil _
      . show IsR 17 ((if e.k = 10 then e.d else []).map Dec.v) _
        rw [if_pos g10]; exact .row _ _
    . refine E _ _ _ _ _ _ _ _ hb6 hb0 rfl rfl rfl rfl rfl rfl hA3 ?_
      refine ⟨_, _, _, ?_, (show IsR 6 ((bareE e).l.map Exp.v) (expsR e.l) from ?_), (show IsR 4 ((bareE e).p.map Pat.v) nilS from ?_), (show IsR 17 ((bareE e).d.map Dec.v) nilS from ?_)⟩
      . show _ = Value.agg ⟨[i64 e.k, i64 (if e.k = 1 then e.n else 0), txt (if e.k = 2 \/ e.k = 3 \/ e.k = 4 \/ e.k = 14 \/ e.k = 15 then e.s else []), _, _, _]⟩
        rw [if_neg g1, if_neg (by omega)]
      . show IsR 6 ((if e.k = 1 \/ e.k = 2 \/ e.k = 3 \/ e.k = 4 then [] else e.l).map Exp.v) _
        rw [if_neg (by omega)]; exact .row _ _
      . show IsR 4 ((if e.k = 7 \/ e.k = 9 \/ e.k = 12 then e.p else []).map Pat.v) _
        rw [if_neg hk]; exact .nil _
      . show IsR 17 ((if e.k = 10 then e.d else []).map Dec.v) _
        rw [if_neg (by omega)]; exact .nil _
 have L28 : ∀ (b : Bool), b = (decide (e.k = 14) || decide (e.k = 15)) -> e.k ≠ 2 -> e.k ≠ 3 -> e.k ≠ 4 -> WqR P pl X0 (.jump (l141_28 (eptrV e.v) (.pointer (some ⟨nx + 1, 0, none⟩)) (.pointer (some ⟨nx + 1 + 1, 0, none⟩)) (i64 e.k) b H3 (nx + 1 + 1 + 1))) nx0 H0 (fun v _ _ => VExp (bareE e) v) := by
  intro b hb h2 h3 h4
  refine Wq.jmp (q141_28 ..) (fun _ => rfl) ?_
  cases b with
  | true =>
    have hk : e.k = 14 \/ e.k = 15 := by
     simp only [Bool.true_eq, Bool.or_eq_true, decide_eq_true_eq] at hb
     exact hb
    simp only [stpF, sttF, List.length_map, fp_44_2]
    refine Wq.put hb6 sz_9 rfl rfl (by simp) rfl hA3 (by omega) fun H4 hb6 k4 hA4 => ?_
    replace hb0 := k4 _ _ _ (by omega) hb0
    refine E _ _ _ _ _ _ _ _ hb6 hb0 rfl rfl rfl rfl rfl rfl hA4 ?_
    refine ⟨_, _, _, ?_, (show IsR 6 ((bareE e).l.map Exp.v) (expsR e.l) from ?_), (show IsR 4 ((bareE e).p.map Pat.v) nilS from ?_), (show IsR 17 ((bareE e).d.map Dec.v) nilS from ?_)⟩
    . show _ = Value.agg ⟨[i64 e.k, i64 (if e.k = 1 then e.n else 0), txt (if e.k = 2 \/ e.k = 3 \/ e.k = 4 \/ e.k = 14 \/ e.k = 15 then e.s else []), _, _, _]⟩
      rw [if_neg g1, if_pos (by omega)]
    . show IsR 6 ((if e.k = 1 \/ e.k = 2 \/ e.k = 3 \/ e.k = 4 then [] else e.l).map Exp.v) _
      rw [if_neg (by omega)]; exact .row _ _
    . show IsR 4 ((if e.k = 7 \/ e.k = 9 \/ e.k = 12 then e.p else []).map Pat.v) _
      rw [if_neg (by omega)]; exact .nil _
    . show IsR 17 ((if e.k = 10 then e.d else []).map Dec.v) _
      rw [if_neg (by omega)]; exact .nil _
  | false =>
    have hk : e.k ≠ 14 /\ e.k ≠ 15 := by
     simp only [Bool.false_eq, Bool.or_eq_false_iff, decide_eq_false_iff_not] at hb
     exact hb
    simp only [stpF]
    refine Wq.ite (fun g => L36 _ (by simp [g]) h2 h3 h4 hk.1 hk.2) (fun g7 => ?_)
    refine Wq.ite (fun g => L36 _ (by simp [g]) h2 h3 h4 hk.1 hk.2) (fun g9 => ?_)
    exact L36 _ (by simp [g7, g9]) h2 h3 h4 hk.1 hk.2
 have L20 : ∀ (b : Bool), b = (decide (e.k = 2) || (decide (e.k = 3) || decide (e.k = 4))) -> WqR P pl X0 (.jump (l141_20 (eptrV e.v) (.pointer (some ⟨nx + 1, 0, none⟩)) (.pointer (some ⟨nx + 1 + 1, 0, none⟩)) (i64 e.k) b H3 (nx + 1 + 1 + 1))) nx0 H0 (fun v _ _ => VExp (bareE e) v) := by
  intro b hb
  refine Wq.jmp (q141_20 ..) (fun _ => rfl) ?_
  cases b with
  | true =>
    have hk : e.k = 2 \/ e.k = 3 \/ e.k = 4 := by
     simp only [Bool.true_eq, Bool.or_eq_true, decide_eq_true_eq] at hb
     exact hb
    simp only [stpF, sttF, List.length_map, fp_44_2, fp_44_3]
    refine Wq.put hb6 sz_9 rfl rfl (by simp) rfl hA3 (by omega) fun H4 hb6 k4 hA4 => ?_
    replace hb0 := k4 _ _ _ (by omega) hb0
    refine Wq.put hb6 sz_41 rfl rfl (by simp) rfl hA4 (by omega) fun H5 hb6 k5 hA5 => ?_
    replace hb0 := k5 _ _ _ (by omega) hb0
    refine E _ _ _ _ _ _ _ _ hb6 hb0 rfl rfl rfl rfl rfl rfl hA5 ?_
    refine ⟨_, _, _, ?_, (show IsR 6 ((bareE e).l.map Exp.v) nilS from ?_), (show IsR 4 ((bareE e).p.map Pat.v) nilS from ?_), (show IsR 17 ((bareE e).d.map Dec.v) nilS from ?_)⟩
    . show _ = Value.agg ⟨[i64 e.k, i64 (if e.k = 1 then e.n else 0), txt (if e.k = 2 \/ e.k = 3 \/ e.k = 4 \/ e.k = 14 \/ e.k = 15 then e.s else []), _, _, _]⟩
      rw [if_neg g1, if_pos (by omega)]
    . show IsR 6 ((if e.k = 1 \/ e.k = 2 \/ e.k = 3 \/ e.k = 4 then [] else e.l).map Exp.v) _
      rw [if_pos (by omega)]; exact .nil _
    . show IsR 4 ((if e.k = 7 \/ e.k = 9 \/ e.k = 12 then e.p else []).map Pat.v) _
      rw [if_neg (by omega)]; exact .nil _
    . show IsR 17 ((if e.k = 10 then e.d else []).map Dec.v) _
      rw [if_neg (by omega)]; exact .nil _
  | false =>
    have hk : e.k ≠ 2 /\ e.k ≠ 3 /\ e.k ≠ 4 := by
     simp only [Bool.false_eq, Bool.or_eq_false_iff, decide_eq_false_iff_not] at hb
     exact hb
    simp only [stpF]
    refine Wq.ite (fun g => L28 _ (by simp [g]) hk.1 hk.2.1 hk.2.2) (fun g14 => ?_)
    exact L28 _ (by simp [g14]) hk.1 hk.2.1 hk.2.2
 refine Wq.ite (fun g => L20 _ (by simp [g])) (fun g2 => ?_)
 refine Wq.ite (fun g => L20 _ (by simp [g])) (fun g3 => ?_)
 exact L20 _ (by simp [g2, g3])
end
end Go.Proofs.YthjhonhhbddhkaaGreatDoor
/- The document: which expressions are right. -/
namespace Go.Proofs.YthjhonhhbddhkaaGreatDoor
open Go.Ev Go.RowKit
noncomputable section
set_option maxRecDepth 100000
set_option linter.unusedVariables false
set_option linter.unusedSimpArgs false
variable {nx0 : Nat} {H0 : T OB}
theorem w_115h (l : List (List UInt8)) (hl : l.length < big) (s : List UInt8) (b n : Nat) (hn : l.length = n) (H : T OB) (nx : Nat) (hb : IsB H b (l.map txt) 9) (hbn : nx0 <= b) (hA : Ag nx0 H0 nx H) : Wq P pl X0 (evT P pl (.call 115 [.slice (some ⟨b, 0, none⟩) n n, txt s] false none H nx)) nx0 H0 (.bool (l.contains s)) := by
 rw [q115]
 refine Wq.frT hb hn hA hbn fun H2 _ hA2 => ?_
 exact w_115 l hl s l 0 H2 _ rfl (Nat.zero_le _) hA2
theorem nat_gt (a : Nat) (b : Nat) : decide ((a : Int) < (b : Int)) = decide (a < b) := by rw [decide_eq_decide]; omega
theorem nat_sub1 (a b : Nat) (hb : b < big) (h : 1 < b) : decide ((a : Int) = IntKind.i64.wrap ((b : Int) - 1)) = decide (a + 1 = b) := by
 have : b < 1125899906842624 := hb
 rw [decide_eq_decide, wrap_id (by omega)]
 omega
theorem w_87_16 (e : Exp) (h : e.ok) (hs : e.s.length <= 1000000) (H : T OB) (nx : Nat) (hA : Ag nx0 H0 nx H) : Wq P pl X0 (.jump (l87_16 (eptrV e.v) false H nx)) nx0 H0 (.bool (expHd e.k e.n e.s e.l.length e.p.length e.d)) := by
 rw [Exp.ok_iff] at h
 obtain ⟨hr, hs', ⟨hl, hl'⟩, ⟨hp, hp'⟩, hd, hd'⟩ := h
 have L62 : ∀ (b : Bool), b = (decide (e.k = 9) || decide (e.k = 12)) -> e.k ≠ 1 -> e.k ≠ 2 -> e.k ≠ 3 -> e.k ≠ 4 -> e.k ≠ 5 -> e.k ≠ 13 -> e.k ≠ 6 -> e.k ≠ 7 -> e.k ≠ 8 -> Wq P pl X0 (.jump (l87_62 (eptrV e.v) (i64 (e.l.length : Int)) (i64 e.k) b H nx)) nx0 H0 (.bool (expHd e.k e.n e.s e.l.length e.p.length e.d)) := by
  intro b hb h1 h2 h3 h4 h5 h13 h6 h7 h8
  unfold expHd
  rw [if_neg h1, if_neg h2, if_neg h3, if_neg h4, if_neg h5, if_neg h13, if_neg h6, if_neg h7, if_neg h8]
  refine Wq.jmp (q87_62 ..) (fun _ => rfl) ?_
  cases b with
  | true =>
    have hk : e.k = 9 \/ e.k = 12 := by
     simp only [Bool.true_eq, Bool.or_eq_true, decide_eq_true_eq] at hb
     exact hb
    rw [if_pos hk]
    simp only [stpF, sttF, List.length_map, nat_gt1]
    refine Wq.ite (fun h => ?_) (fun h => ?_)
    . rw [nat_sub1 _ _ hl h, decide_eq_true h, Bool.true_and]
      exact Wq.ret hA
    . rw [decide_eq_false h, Bool.false_and]
      exact Wq.ret hA
  | false =>
    have hk : ¬(e.k = 9 \/ e.k = 12) := by
     simp only [Bool.false_eq, Bool.or_eq_false_iff, decide_eq_false_iff_not] at hb
     omega
    rw [if_neg hk]
    simp only [stpF, sttF, List.length_map, nat_eq1, nat_eq2]
    refine Wq.ite (fun g => ?_) (fun g11 => ?_)
    . rw [if_pos g]; exact Wq.ret hA
    rw [if_neg g11]
    refine Wq.ite (fun g => ?_) (fun g14 => ?_)
    . rw [if_pos g]
      refine Wq.bK (fun h => ?_) (fun h => ?_)
      . rw [h, Bool.true_and]
        refine Wq.row und_49 sz_9 zero_9' rfl fl_bins hA fun H1 hb1 _ hA1 => ?_
        refine Wq.callAt rfl (w_115h binsL (by decide) e.s nx 16 rfl H1 _ hb1 hA.1 hA1) fun H2 nx2 hA2 => ?_
        simp only [stpF]
        exact Wq.ret hA2
      . rw [h, Bool.false_and]; exact Wq.ret hA
    rw [if_neg g14]
    refine Wq.ite (fun g => ?_) (fun g15 => ?_)
    . rw [if_pos g]
      refine Wq.bK (fun h => ?_) (fun h => ?_)
      . rw [h, Bool.true_and]
        refine Wq.call pu_142 hA fun H1 nx1 hA1 => ?_
        refine Wq.call (pu_115 wordsL (by decide) e.s) hA1 fun H2 nx2 hA2 => ?_
        simp only [stpF]
        exact Wq.ret hA2
      . rw [h, Bool.false_and]; exact Wq.ret hA
    rw [if_neg g15]
    refine Wq.ite (fun g => ?_) (fun g10 => ?_)
    . rw [if_pos g]
      refine Wq.each (e.d) (fun i (_ : Unit) H nx => .jump (l87_81 (eptrV e.v) (i64 (e.l.length : Int)) (i64 (i : Int)) H nx)) (fun t (_ : Unit) => .bool ((t.all fun d => decide (d.k = 1) || decide (d.k = 2)) && decide (e.l.length = 1))) (fun s0 H0' nx0' hA0 => ?_) (fun i0 a0 t0 s0 H0' nx0' hg0 hlt0 hd0 hA0 ih0 => ?_) (()) _ _ hA
      . refine Wq.jmp (q87_81 ..) (fun _ => rfl) ?_
        simp only [stpF, sttF, List.length_map, not_lt_len]
        simp only [stpF, nat_eq1]
        exact Wq.ret hA0
      . have hx0 : ((e.d).map Dec.v)[i0]? = some (Dec.v a0) := by simp [hg0]
        have hm0 := List.mem_of_getElem? hg0
        refine Wq.jmp (q87_81 ..) (fun _ => rfl) ?_
        simp only [stpF, sttF, List.length_map, is_lt_len hlt0, ix_24 hx0]
        have L86 : ∀ (b : Bool), b = !(decide (a0.k = 1) || decide (a0.k = 2)) -> Wq P pl X0 (.jump (l87_86 (eptrV e.v) (i64 (e.l.length : Int)) (i64 (i0 : Int)) b H0' nx0')) nx0 H0 (.bool (((a0 :: t0).all fun d => decide (d.k = 1) || decide (d.k = 2)) && decide (e.l.length = 1))) := by
         intro b hb
         refine Wq.jmp (q87_86 ..) (fun _ => rfl) ?_
         rw [List.all_cons]
         cases hx : (decide (a0.k = 1) || decide (a0.k = 2)) with
         | false => rw [hx] at hb; rw [hb, Bool.false_and]; exact Wq.ret hA0
         | true =>
           rw [hx] at hb
           rw [hb, Bool.true_and]
           simp only [stpF, wrap_succ (show i0 < 9223372036854775807 by have := sm_lt hd; omega)]
           exact ih0 () _ _ hA0
        refine Wq.nite (fun h => ?_) (fun h => L86 _ (by simp [h]))
        exact L86 _ (by simp [h])
    . rw [if_neg g10]; exact Wq.ret hA
 refine Wq.jmp (q87_16 ..) (fun _ => rfl) ?_
 simp only [stpF, sttF, List.length_map, nat_eq1, nat_eq2, nat_eq3, nat_gt1, nat_gt0, nat_eq]
 unfold expHd at L62 ⊢
 refine Wq.ite (fun g => ?_) (fun g1 => ?_)
 . rw [if_pos g]
   refine Wq.bK (fun h => ?_) (fun h => ?_)
   . rw [h, Bool.true_and]; exact Wq.ret hA
   . rw [h, Bool.false_and]; exact Wq.ret hA
 rw [if_neg g1]
 rw [if_neg g1] at L62
 refine Wq.ite (fun g => ?_) (fun g2 => ?_)
 . rw [if_pos g]; exact Wq.ret hA
 rw [if_neg g2]
 rw [if_neg g2] at L62
 refine Wq.ite (fun g => ?_) (fun g3 => ?_)
 . rw [if_pos g]
   refine Wq.call (pu_88 3 _ hs (by simp)) hA fun H1 nx1 hA1 => ?_
   simp only [stpF]
   exact Wq.ret hA1
 rw [if_neg g3]
 rw [if_neg g3] at L62
 refine Wq.ite (fun g => ?_) (fun g4 => ?_)
 . rw [if_pos g]
   refine Wq.call (pu_88 4 _ hs (by simp)) hA fun H1 nx1 hA1 => ?_
   simp only [stpF]
   exact Wq.ret hA1
 rw [if_neg g4]
 rw [if_neg g4] at L62
 refine Wq.ite (fun g => ?_) (fun g5 => ?_)
 . rw [if_pos g]; exact Wq.ret hA
 rw [if_neg g5]
 rw [if_neg g5] at L62
 refine Wq.ite (fun g => ?_) (fun g13 => ?_)
 . rw [if_pos g]; exact Wq.ret hA
 rw [if_neg g13]
 rw [if_neg g13] at L62
 refine Wq.ite (fun g => ?_) (fun g6 => ?_)
 . rw [if_pos g]; exact Wq.ret hA
 rw [if_neg g6]
 rw [if_neg g6] at L62
 refine Wq.ite (fun g => ?_) (fun g7 => ?_)
 . rw [if_pos g]
   refine Wq.bK (fun h => ?_) (fun h => ?_)
   . rw [h, Bool.true_and]; exact Wq.ret hA
   . rw [h, Bool.false_and]; exact Wq.ret hA
 rw [if_neg g7]
 rw [if_neg g7] at L62
 refine Wq.ite (fun g => ?_) (fun g8 => ?_)
 . rw [if_pos g]; exact Wq.ret hA
 rw [if_neg g8]
 rw [if_neg g8] at L62
 refine Wq.ite (fun g => L62 _ (by simp [g]) g1 g2 g3 g4 g5 g13 g6 g7 g8) (fun g9 => ?_)
 exact L62 _ (by simp [g9]) g1 g2 g3 g4 g5 g13 g6 g7 g8
theorem bareE_ok {e : Exp} (h : e.ok) : (bareE e).ok := by
 rw [Exp.ok_iff] at h ⊢
 obtain ⟨hr, hs', ⟨hl, hl'⟩, ⟨hp, hp'⟩, hd, hd'⟩ := h
 have b0 : (0 : Nat) < big := by decide
 refine ⟨?_, ?_, ⟨?_, ?_⟩, ⟨?_, ?_⟩, ?_, ?_⟩
 . show rg (if e.k = 1 then e.n else 0)
   split
   . exact hr
   . unfold rg; omega
 . show sOk (if e.k = 2 \/ e.k = 3 \/ e.k = 4 \/ e.k = 14 \/ e.k = 15 then e.s else [])
   split
   . exact hs'
   . show ([] : List UInt8).length < _; simp
 . show (if e.k = 1 \/ e.k = 2 \/ e.k = 3 \/ e.k = 4 then [] else e.l).length < big
   split
   . exact b0
   . exact hl
 . show ∀ c, c ∈ (if e.k = 1 \/ e.k = 2 \/ e.k = 3 \/ e.k = 4 then [] else e.l) -> c.ok
   split
   . intro c hc; cases hc
   . exact hl'
 . show (if e.k = 7 \/ e.k = 9 \/ e.k = 12 then e.p else []).length < big
   split
   . exact hp
   . exact b0
 . show ∀ c, c ∈ (if e.k = 7 \/ e.k = 9 \/ e.k = 12 then e.p else []) -> c.ok
   split
   . exact hp'
   . intro c hc; cases hc
 . show (if e.k = 10 then e.d else []).length < big
   split
   . exact hd
   . exact b0
 . show ∀ c, c ∈ (if e.k = 10 then e.d else []) -> c.ok
   split
   . exact hd'
   . intro c hc; cases hc
theorem pu_87a (e : Exp) (h : e.ok) (hz : e.z <= 500) (hE : ∀ c, c ∈ e.l -> P0 87 [c.v] (.bool (expR c))) (hD : P0 21 [decsR e.d] (.bool (decsRt e.d))) : P0 87 [e.v] (.bool (expR e)) := Pure.of rfl fun H nx => by
 have h' := (Exp.ok_iff e).1 h
 obtain ⟨hr, hs', ⟨hl, hl'⟩, ⟨hp, hp'⟩, hd, hd'⟩ := h'
 have hz' := hz
 rw [Exp.z_eq] at hz'
 have hs : e.s.length <= 1000000 := by omega
 rw [q87, expR_eq]
 refine Wq.natF' (.refl _ _) fun hA => ?_
 have L16 : ∀ H1 nx1, Ag nx H nx1 H1 -> Wq P pl X0 (.jump (l87_16 (eptrV e.v) true H1 nx1)) nx H (.bool false) := by
  intro H1 nx1 hA1
  refine Wq.jmp (q87_16 ..) (fun _ => rfl) ?_
  exact Wq.ret hA1
 refine Wq.each (e.l) (fun i (_ : Unit) H nx => .jump (l87_7 (eptrV e.v) (i64 (i : Int)) H nx)) (fun t (_ : Unit) => .bool (expsRt t && (eqb (bareE e) e && (patsRt e.p && (decsRt e.d && expHd e.k e.n e.s e.l.length e.p.length e.d))))) (fun s0 H0 nx0 hA0 => ?_) (fun i0 a0 t0 s0 H0 nx0 hg0 hlt0 hd0 hA0 ih0 => ?_) (()) _ _ hA
 . refine Wq.jmp (q87_7 ..) (fun _ => rfl) ?_
   simp only [stpF, sttF, List.length_map, not_lt_len]
   rw [expsRt, Bool.true_and]
   refine Wq.callR rfl (w_141 e H0 nx0 hA0) fun u H1 nx1 hA1 hu => ?_
   refine Wq.call (both_25.1 (bareE e) (bareE_ok h) e u hu) hA1 fun H2 nx2 hA2 => ?_
   cases eqb (bareE e) e with
   | false => simp only [stpF]; exact L16 _ _ hA2
   | true =>
   rw [Bool.true_and]
   simp only [stpF]
   refine Wq.call (pu_89' e.p hp hp' (by omega)) hA2 fun H3 nx3 hA3 => ?_
   cases patsRt e.p with
   | false => simp only [stpF]; exact L16 _ _ hA3
   | true =>
   rw [Bool.true_and]
   simp only [stpF]
   refine Wq.call hD hA3 fun H4 nx4 hA4 => ?_
   cases decsRt e.d with
   | false => simp only [stpF]; exact L16 _ _ hA4
   | true =>
   rw [Bool.true_and]
   simp only [stpF]
   exact w_87_16 e h hs _ _ hA4
 . have hx0 : ((e.l).map Exp.v)[i0]? = some (Exp.v a0) := by simp [hg0]
   have hm0 := List.mem_of_getElem? hg0
   refine Wq.jmp (q87_7 ..) (fun _ => rfl) ?_
   simp only [stpF, sttF, List.length_map, is_lt_len hlt0, ix_41 hx0]
   refine Wq.call (hE a0 hm0) hA0 fun H2 nx2 hA2 => ?_
   rw [expsRt]
   cases expR a0 with
   | false => simp only [stpF, Bool.false_and]; exact Wq.ret hA2
   | true =>
     simp only [stpF, Bool.true_and, wrap_succ (show i0 < 9223372036854775807 by have := sm_lt hl; omega)]
     exact ih0 () _ _ hA2
end
end Go.Proofs.YthjhonhhbddhkaaGreatDoor
/- The document: which declarations are right. -/
namespace Go.Proofs.YthjhonhhbddhkaaGreatDoor
open Go.Ev Go.RowKit
noncomputable section
set_option maxRecDepth 100000
set_option linter.unusedVariables false
set_option linter.unusedSimpArgs false
variable {nx0 : Nat} {H0 : T OB}
theorem fl_57 (c0 c1 c2 c3 c4 c5 c6 c7 c8 c9 c10 c11 c12 c13 c14 c15 c16 : Value) : Instr.fill (fun i => some (i * 17, 17)) (zeroRow [Value.int .i64 0, Value.int .i64 0, Value.int .i64 0, Value.string ⟨⟨[]⟩⟩, Value.slice none 0 0, Value.int .i64 0, Value.int .i64 0, Value.string ⟨⟨[]⟩⟩, Value.slice none 0 0, Value.slice none 0 0, Value.slice none 0 0, Value.slice none 0 0, Value.slice none 0 0, Value.string ⟨⟨[]⟩⟩, Value.slice none 0 0, Value.string ⟨⟨[]⟩⟩, Value.slice none 0 0] (1 * 17)) [(0, .agg ⟨[c0, c1, c2, c3, c4, c5, c6, c7, c8, c9, c10, c11, c12, c13, c14, c15, c16]⟩)] = some ⟨[c0, c1, c2, c3, c4, c5, c6, c7, c8, c9, c10, c11, c12, c13, c14, c15, c16]⟩ := by kernel_rfl
theorem fl_57d (d : Dec) : Instr.fill (fun i => some (i * 17, 17)) (zeroRow [Value.int .i64 0, Value.int .i64 0, Value.int .i64 0, Value.string ⟨⟨[]⟩⟩, Value.slice none 0 0, Value.int .i64 0, Value.int .i64 0, Value.string ⟨⟨[]⟩⟩, Value.slice none 0 0, Value.slice none 0 0, Value.slice none 0 0, Value.slice none 0 0, Value.slice none 0 0, Value.string ⟨⟨[]⟩⟩, Value.slice none 0 0, Value.string ⟨⟨[]⟩⟩, Value.slice none 0 0] (1 * 17)) [(0, d.v)] = some ⟨d.cs⟩ := by
 rw [Dec.v_eq, Dec.cs_eq]
 exact fl_57 _ _ _ _ _ _ _ _ _ _ _ _ _ _ _ _ _
theorem zero_57' : zeroC P 57 = some [Value.int .i64 0, Value.int .i64 0, Value.int .i64 0, Value.string ⟨⟨[]⟩⟩, Value.slice none 0 0, Value.int .i64 0, Value.int .i64 0, Value.string ⟨⟨[]⟩⟩, Value.slice none 0 0, Value.slice none 0 0, Value.slice none 0 0, Value.slice none 0 0, Value.slice none 0 0, Value.string ⟨⟨[]⟩⟩, Value.slice none 0 0, Value.string ⟨⟨[]⟩⟩, Value.slice none 0 0] := by kernel_rfl
theorem bd_57 (k : Int) : rdBuild P 57 (some [(0, i64 k)]) = some (.agg ⟨[i64 k, i64 0, i64 0, txt [], nilS, i64 0, i64 0, txt [], nilS, nilS, nilS, nilS, nilS, txt [], nilS, txt [], nilS]⟩) := rdBuild_of zero_57' (by kernel_rfl)
theorem pat0_ok : pat0.ok := by rw [Pat.ok_iff]; exact ⟨by show rg 0; unfold rg; omega, by show ([] : List UInt8).length < _; simp, by show 0 < big; decide, fun c hc => nomatch hc⟩
theorem exp0_ok : exp0.ok := by
 rw [Exp.ok_iff]
 exact ⟨by show rg 0; unfold rg; omega, by show ([] : List UInt8).length < _; simp, ⟨by show 0 < big; decide, fun c hc => nomatch hc⟩, ⟨by show 0 < big; decide, fun c hc => nomatch hc⟩, by show 0 < big; decide, fun c hc => nomatch hc⟩
theorem data0_ok : data0.ok := ⟨⟨by show 0 < big; decide, fun c hc => nomatch hc⟩, by show ([] : List UInt8).length < _; simp, by show 0 < big; decide, fun c hc => nomatch hc⟩
theorem con0_ok : con0.ok := ⟨by show ([] : List UInt8).length < _; simp, by show 0 < big; decide, fun c hc => nomatch hc⟩
theorem bareD_ok {d : Dec} (h : d.ok) : (bareD d).ok := by
 rw [Dec.ok_iff] at h ⊢
 obtain ⟨h1, h2, h3, h4, h5⟩ := h
 refine ⟨?_, ?_, ?_, ?_, ?_⟩
 . show (if d.k = 1 then d.p else pat0).ok
   split
   . exact h1
   . exact pat0_ok
 . show (if d.k = 1 \/ d.k = 5 then d.e else exp0).ok
   split
   . exact h2
   . exact exp0_ok
 . show (if d.k = 2 then d.f else []).length < big /\ ∀ c, c ∈ (if d.k = 2 then d.f else []) -> c.ok
   split
   . exact h3
   . exact ⟨by show 0 < big; decide, fun c hc => nomatch hc⟩
 . show (if d.k = 3 then d.x else data0).ok
   split
   . exact h4
   . exact data0_ok
 . show (if d.k = 4 then d.c else con0).ok
   split
   . exact h5
   . exact con0_ok
theorem Wq.same {d : Dec} (hd : d.ok) {bb : Nat} {c0 c1 c2 c3 c4 c5 c6 c7 c8 c9 c10 c11 c12 c13 c14 c15 c16 : Value} {H : T OB} {nx : Nat} {R : Value -> T OB -> Nat -> Prop} {k p : Value -> T OB -> Nat -> Q} (hb : IsB H bb [c0, c1, c2, c3, c4, c5, c6, c7, c8, c9, c10, c11, c12, c13, c14, c15, c16] 57) (hV : VDec (bareD d) (.agg ⟨[c0, c1, c2, c3, c4, c5, c6, c7, c8, c9, c10, c11, c12, c13, c14, c15, c16]⟩)) (hA : Ag nx0 H0 nx H)
 (hk : ∀ H' nx', Ag nx0 H0 nx' H' -> WqR P pl X0 (k (.bool (eqb (bareD d) d)) H' nx') nx0 H0 R) :
 WqR P pl X0 (optK (rdLoad P H 57 (some (.pointer (some ⟨bb, 0, none⟩)))) (fun x => effQ (efBuildSlice P H nx 24 1 (some [(0, x)])) (fun y H nx => effQ (efBuildSlice P H nx 24 1 (some [(0, d.v)])) (fun z H nx => callQ (.call 14 [y, z] false none H nx) k p))) .bad) nx0 H0 R := by
 rw [rdLoad_agg hb agg_57 sz_57 (by simp)]
 refine Wq.row und_24 sz_57 zero_57' rfl (fl_57 _ _ _ _ _ _ _ _ _ _ _ _ _ _ _ _ _) hA fun H1 h1 k1 hA1 => ?_
 refine Wq.row und_24 sz_57 zero_57' rfl (fl_57d d) hA1 fun H2 h2 k2 hA2 => ?_
 refine Wq.callAt rfl (w_14h (bareD d) d (bareD_ok hd) _ hV nx (nx + 1) (by omega) H2 _ (k2 _ _ _ (by omega) h1) h2 hA.1 (by have := hA.1; omega) hA2) hk
theorem pu_45a (d : Dec) (hd : d.ok) (hz : d.z <= 500) (hE : P0 87 [d.e.v] (.bool (expR d.e))) (hF : ∀ f, f ∈ d.f -> P0 87 [f.b.v] (.bool (expR f.b))) : P0 45 [d.v] (.bool (decR d)) := Pure.of rfl fun H nx => by
 have hd' := (Dec.ok_iff d).1 hd
 obtain ⟨hp, he, ⟨hfl, hf⟩, hx, hc⟩ := hd'
 rw [Dec.z_eq] at hz
 rw [q45, decR_eq]
 refine Wq.natF' (.refl _ _) fun hA => ?_
 simp only [stpF, sttF, List.length_map, bd_57]
 refine Wq.alloc zero_57' hA fun H1 hb _ hA1 => ?_
 refine Wq.store hb sz_57 (by simp) rfl rfl hA1 (by omega) fun H2 hb _ hA2 => ?_
 replace hb : IsB H2 (nx + 1) [i64 d.k, i64 0, i64 0, txt [], nilS, i64 0, i64 0, txt [], nilS, nilS, nilS, nilS, nilS, txt [], nilS, txt [], nilS] 57 := hb
 clear hA1
 refine Wq.ite (fun g => ?_) (fun g1 => ?_)
 . rw [if_pos g]
   refine Wq.store hb sz_47 (by simp) (nPat _) (oPat _) hA2 (by omega) fun H3 hb _ hA3 => ?_
   rw [Pat.v_eq] at hb
   replace hb : IsB H3 (nx + 1) [i64 d.k, i64 d.p.k, i64 d.p.n, txt d.p.s, patsR d.p.l, i64 0, i64 0, txt [], nilS, nilS, nilS, nilS, nilS, txt [], nilS, txt [], nilS] 57 := hb
   simp only [stpF, sttF, List.length_map, fp_57_2]
   refine Wq.store hb sz_44 (by simp) (nExp _) (oExp _) hA3 (by omega) fun H4 hb _ hA4 => ?_
   rw [Exp.v_eq] at hb
   replace hb : IsB H4 (nx + 1) [i64 d.k, i64 d.p.k, i64 d.p.n, txt d.p.s, patsR d.p.l, i64 d.e.k, i64 d.e.n, txt d.e.s, expsR d.e.l, patsR d.e.p, decsR d.e.d, nilS, nilS, txt [], nilS, txt [], nilS] 57 := hb
   have hV : VDec (bareD d) (.agg ⟨[i64 d.k, i64 d.p.k, i64 d.p.n, txt d.p.s, patsR d.p.l, i64 d.e.k, i64 d.e.n, txt d.e.s, expsR d.e.l, patsR d.e.p, decsR d.e.d, nilS, nilS, txt [], nilS, txt [], nilS]⟩) := by
    have e : bareD d = .mk d.k d.p d.e [] data0 con0 := by unfold bareD; simp [g]
    rw [e]
    exact ⟨_, _, _, _, _, _, _, _, rfl, .row _ _, .row _ _, .row _ _, .row _ _, .nil _, .nil _, .nil _, .nil _⟩
   refine Wq.same hd hb hV hA4 fun H5 nx5 hA5 => ?_
   simp only [stpF]
   refine Wq.bK (fun h => ?_) (fun h => by rw [h, Bool.false_and]; exact Wq.ret hA5)
   rw [h, Bool.true_and]
   refine Wq.call (pu_86 d.p hp (by omega)) hA5 fun H6 nx6 hA6 => ?_
   simp only [stpF]
   refine Wq.bK (fun h => ?_) (fun h => by rw [h, Bool.false_and]; exact Wq.ret hA6)
   rw [h, Bool.true_and]
   refine Wq.call hE hA6 fun H7 nx7 hA7 => ?_
   simp only [stpF]
   exact Wq.ret hA7
 rw [if_neg g1]
 refine Wq.ite (fun g => ?_) (fun g5 => ?_)
 . rw [if_pos g]
   refine Wq.store hb sz_44 (by simp) (nExp _) (oExp _) hA2 (by omega) fun H4 hb _ hA4 => ?_
   rw [Exp.v_eq] at hb
   replace hb : IsB H4 (nx + 1) [i64 d.k, i64 0, i64 0, txt [], nilS, i64 d.e.k, i64 d.e.n, txt d.e.s, expsR d.e.l, patsR d.e.p, decsR d.e.d, nilS, nilS, txt [], nilS, txt [], nilS] 57 := hb
   have hV : VDec (bareD d) (.agg ⟨[i64 d.k, i64 0, i64 0, txt [], nilS, i64 d.e.k, i64 d.e.n, txt d.e.s, expsR d.e.l, patsR d.e.p, decsR d.e.d, nilS, nilS, txt [], nilS, txt [], nilS]⟩) := by
    have e : bareD d = .mk d.k pat0 d.e [] data0 con0 := by unfold bareD; simp [g]
    rw [e]
    exact ⟨_, _, _, _, _, _, _, _, rfl, .nil _, .row _ _, .row _ _, .row _ _, .nil _, .nil _, .nil _, .nil _⟩
   refine Wq.same hd hb hV hA4 fun H5 nx5 hA5 => ?_
   simp only [stpF]
   refine Wq.bK (fun h => ?_) (fun h => by rw [h, Bool.false_and]; exact Wq.ret hA5)
   rw [h, Bool.true_and]
   refine Wq.call hE hA5 fun H7 nx7 hA7 => ?_
   simp only [stpF]
   exact Wq.ret hA7
 rw [if_neg g5]
 refine Wq.ite (fun g => ?_) (fun g2 => ?_)
 . rw [if_pos g]
   refine Wq.put hb sz_48 rfl rfl (by simp) rfl hA2 (by omega) fun H3 hb _ hA3 => ?_
   have hV : VDec (bareD d) (.agg ⟨[i64 d.k, i64 0, i64 0, txt [], nilS, i64 0, i64 0, txt [], nilS, nilS, nilS, fnsR d.f, nilS, txt [], nilS, txt [], nilS]⟩) := by
    have e : bareD d = .mk d.k pat0 exp0 d.f data0 con0 := by unfold bareD; simp [g]
    rw [e]
    exact ⟨_, _, _, _, _, _, _, _, rfl, .nil _, .nil _, .nil _, .nil _, .row _ _, .nil _, .nil _, .nil _⟩
   refine Wq.base hA3 ?_
   refine Wq.each (d.f) (fun i (_ : Unit) Hq nq => .jump (l45_29 (eptrV d.v) (.pointer (some ⟨nx + 1, 0, none⟩)) (i64 (i : Int)) Hq nq)) (fun t (_ : Unit) => .bool (fnsRt t && (decide (0 < d.f.length) && eqb (bareD d) d))) (fun s0 H0' nx0' hA0 => ?_) (fun i0 a0 t0 s0 H0' nx0' hg0 hlt0 hd0 hA0 ih0 => ?_) (()) _ _ (.refl _ _)
   . refine Wq.jmp (q45_29 ..) (fun _ => rfl) ?_
     simp only [stpF, sttF, List.length_map, not_lt_len]
     rw [fnsRt, Bool.true_and]
     simp only [stpF, nat_gt0]
     refine Wq.bK (fun h => ?_) (fun h => by rw [h, Bool.false_and]; exact Wq.ret hA0)
     rw [h, Bool.true_and]
     refine Wq.same hd (hb.ag hA0 (by omega)) hV hA0 fun H5 nx5 hA5 => ?_
     simp only [stpF]
     exact Wq.ret hA5
   . have hx0 : ((d.f).map Fn.v)[i0]? = some (Fn.v a0) := by simp [hg0]
     have hm0 := List.mem_of_getElem? hg0
     refine Wq.jmp (q45_29 ..) (fun _ => rfl) ?_
     simp only [stpF, sttF, List.length_map, is_lt_len hlt0, ix_48 hx0]
     refine Wq.var zero_65 sz_65 rfl (nFn _) (oFn _) hA0 fun H4 nx4 hA4 => ?_
     have hfa := (Fn.ok_iff a0).1 (hf a0 hm0)
     have hza := fnsZ_mem hm0
     have hzb := a0.z_eq
     have L36 : ∀ (b : Bool) H1 nx1, Ag (nx + 1 + 1) H3 nx1 H1 -> b = !fnR a0 -> Wq P pl X0 (.jump (l45_36 (eptrV d.v) (.pointer (some ⟨nx + 1, 0, none⟩)) (i64 (i0 : Int)) b H1 nx1)) (nx + 1 + 1) H3 (.bool (fnsRt (a0 :: t0) && (decide (0 < d.f.length) && eqb (bareD d) d))) := by
      intro b H1 nx1 hA1 hb
      refine Wq.jmp (q45_36 ..) (fun _ => rfl) ?_
      rw [fnsRt]
      cases hx : fnR a0 with
      | false => rw [hx] at hb; rw [hb, Bool.false_and]; exact Wq.ret hA1
      | true =>
        rw [hx] at hb
        rw [hb, Bool.true_and]
        simp only [stpF, wrap_succ (show i0 < 9223372036854775807 by have := sm_lt hfl; omega)]
        exact ih0 () _ _ hA1
     rw [fnR_eq] at L36
     refine Wq.call (pu_88 3 _ (by omega) (by simp)) hA4 fun H5 nx5 hA5 => ?_
     cases h1 : wordOk 3 a0.s with
     | false => rw [h1] at L36; simp only [stpF]; exact L36 _ _ _ hA5 rfl
     | true =>
     rw [h1, Bool.true_and] at L36
     simp only [stpF, sttF, List.length_map, nat_eq0]
     refine Wq.ite (fun h => L36 _ _ _ hA5 (by simp [h])) (fun h => ?_)
     rw [show decide (0 < a0.p.length) = true by simp; omega, Bool.true_and] at L36
     refine Wq.call (pu_89' a0.p hfa.2.1.1 hfa.2.1.2 (by omega)) hA5 fun H6 nx6 hA6 => ?_
     cases h2 : patsRt a0.p with
     | false => rw [h2] at L36; simp only [stpF]; exact L36 _ _ _ hA6 rfl
     | true =>
     rw [h2, Bool.true_and] at L36
     simp only [stpF]
     refine Wq.call (hF a0 hm0) hA6 fun H7 nx7 hA7 => ?_
     simp only [stpF]
     exact L36 _ _ _ hA7 rfl
 rw [if_neg g2]
 refine Wq.ite (fun g => ?_) (fun g3 => ?_)
 . rw [if_pos g]
   refine Wq.store hb sz_52 (by simp) (nData _) (oData _) hA2 (by omega) fun H3 hb _ hA3 => ?_
   rw [Data.v_eq] at hb
   replace hb : IsB H3 (nx + 1) [i64 d.k, i64 0, i64 0, txt [], nilS, i64 0, i64 0, txt [], nilS, nilS, nilS, nilS, strsR d.x.vars, txt d.x.s, consR d.x.cons, txt [], nilS] 57 := hb
   have hV : VDec (bareD d) (.agg ⟨[i64 d.k, i64 0, i64 0, txt [], nilS, i64 0, i64 0, txt [], nilS, nilS, nilS, nilS, strsR d.x.vars, txt d.x.s, consR d.x.cons, txt [], nilS]⟩) := by
    have e : bareD d = .mk d.k pat0 exp0 [] d.x con0 := by unfold bareD; simp [g]
    rw [e]
    exact ⟨_, _, _, _, _, _, _, _, rfl, .nil _, .nil _, .nil _, .nil _, .nil _, .row _ _, .row _ _, .nil _⟩
   have hzx := hz
   unfold Data.z at hzx
   refine Wq.base hA3 ?_
   refine Wq.each (d.x.vars) (fun i (_ : Unit) Hq nq => .jump (l45_47 (eptrV d.v) (.pointer (some ⟨nx + 1, 0, none⟩)) (i64 (i : Int)) Hq nq)) (fun t (_ : Unit) => .bool (varsRt t && (consRt d.x.cons && (wordOk 3 d.x.s && (decide (0 < d.x.cons.length) && eqb (bareD d) d))))) (fun s0 H0' nx0' hA0 => ?_) (fun i0 a0 t0 s0 H0' nx0' hg0 hlt0 hd0 hA0 ih0 => ?_) (()) _ _ (.refl _ _)
   . refine Wq.jmp (q45_47 ..) (fun _ => rfl) ?_
     simp only [stpF, sttF, List.length_map, not_lt_len]
     rw [varsRt, Bool.true_and]
     refine Wq.each (d.x.cons) (fun i (_ : Unit) Hq nq => .jump (l45_57 (eptrV d.v) (.pointer (some ⟨nx + 1, 0, none⟩)) (i64 (i : Int)) Hq nq)) (fun t (_ : Unit) => .bool (consRt t && (wordOk 3 d.x.s && (decide (0 < d.x.cons.length) && eqb (bareD d) d)))) (fun s8 H8 nx8 hA8 => ?_) (fun i8 a8 t8 s8 H8 nx8 hg8 hlt8 hd8 hA8 ih8 => ?_) (()) _ _ hA0
     . refine Wq.jmp (q45_57 ..) (fun _ => rfl) ?_
       simp only [stpF, sttF, List.length_map, not_lt_len]
       rw [consRt, Bool.true_and]
       refine Wq.call (pu_88 3 _ (by omega) (by simp)) hA8 fun H5 nx5 hA5 => ?_
       simp only [stpF, sttF, List.length_map, nat_gt0]
       refine Wq.bK (fun h => ?_) (fun h => by rw [h, Bool.false_and]; exact Wq.ret hA5)
       rw [h, Bool.true_and]
       refine Wq.bK (fun h => ?_) (fun h => by rw [h, Bool.false_and]; exact Wq.ret hA5)
       rw [h, Bool.true_and]
       refine Wq.same hd (hb.ag hA5 (by omega)) hV hA5 fun H6 nx6 hA6 => ?_
       simp only [stpF]
       exact Wq.ret hA6
     . have hx8 : ((d.x.cons).map Con.v)[i8]? = some (Con.v a8) := by simp [hg8]
       have hm8 := List.mem_of_getElem? hg8
       refine Wq.jmp (q45_57 ..) (fun _ => rfl) ?_
       simp only [stpF, sttF, List.length_map, is_lt_len hlt8, ix_50 hx8]
       refine Wq.call (pu_90 a8 (hx.2.2.2 a8 hm8) (by have := consZ_mem hm8; omega)) hA8 fun H2 nx2 hA2 => ?_
       rw [consRt]
       cases conR a8 with
       | false => simp only [stpF, Bool.false_and]; exact Wq.ret hA2
       | true =>
         simp only [stpF, Bool.true_and, wrap_succ (show i8 < 9223372036854775807 by have := sm_lt hx.2.2.1; omega)]
         exact ih8 () _ _ hA2
   . have hx0 : ((d.x.vars).map txt)[i0]? = some (txt a0) := by simp [hg0]
     have hm0 := List.mem_of_getElem? hg0
     refine Wq.jmp (q45_47 ..) (fun _ => rfl) ?_
     simp only [stpF, sttF, List.length_map, is_lt_len hlt0, ix_49 hx0]
     refine Wq.call (pu_88 5 _ (by have := strsZ_mem hm0; omega) (by simp)) hA0 fun H2 nx2 hA2 => ?_
     rw [varsRt]
     cases wordOk 5 a0 with
     | false => simp only [stpF, Bool.false_and]; exact Wq.ret hA2
     | true =>
       simp only [stpF, Bool.true_and, wrap_succ (show i0 < 9223372036854775807 by have := sm_lt hx.1.1; omega)]
       exact ih0 () _ _ hA2
 rw [if_neg g3]
 refine Wq.ite (fun g => ?_) (fun g4 => ?_)
 . rw [if_pos g]
   refine Wq.store hb sz_55 (by simp) (nCon _) (oCon _) hA2 (by omega) fun H3 hb _ hA3 => ?_
   rw [Con.v_eq] at hb
   replace hb : IsB H3 (nx + 1) [i64 d.k, i64 0, i64 0, txt [], nilS, i64 0, i64 0, txt [], nilS, nilS, nilS, nilS, nilS, txt [], nilS, txt d.c.s, tysR d.c.arg] 57 := hb
   have hV : VDec (bareD d) (.agg ⟨[i64 d.k, i64 0, i64 0, txt [], nilS, i64 0, i64 0, txt [], nilS, nilS, nilS, nilS, nilS, txt [], nilS, txt d.c.s, tysR d.c.arg]⟩) := by
    have e : bareD d = .mk d.k pat0 exp0 [] data0 d.c := by unfold bareD; simp [g]
    rw [e]
    exact ⟨_, _, _, _, _, _, _, _, rfl, .nil _, .nil _, .nil _, .nil _, .nil _, .nil _, .nil _, .row _ _⟩
   refine Wq.callB (pu_90 d.c hc (by omega)) hA3 fun H4 nx4 hA4 n4 k4 => ?_
   replace hb := k4 _ _ _ (by omega) hb
   simp only [stpF]
   refine Wq.bK (fun h => ?_) (fun h => by rw [h, Bool.false_and]; exact Wq.ret hA4)
   rw [h, Bool.true_and]
   refine Wq.same hd hb hV hA4 fun H5 nx5 hA5 => ?_
   simp only [stpF]
   exact Wq.ret hA5
 . rw [if_neg g4]
   refine Wq.jmp (q45_72 ..) (fun _ => rfl) ?_
   exact Wq.ret hA2
theorem pu_21 (l : List Dec) (hl : l.length < big) (ih : ∀ d, d ∈ l -> P0 45 [d.v] (.bool (decR d))) : P0 21 [decsR l] (.bool (decsRt l)) := Pure.of rfl fun H nx => by
 rw [q21]
 refine Wq.each (l) (fun i (_ : Unit) H nx => .jump (l21_7 (decsR l) (i64 (i : Int)) H nx)) (fun t (_ : Unit) => .bool (decsRt t)) (fun s0 H0 nx0 hA0 => ?_) (fun i0 a0 t0 s0 H0 nx0 hg0 hlt0 hd0 hA0 ih0 => ?_) (()) _ _ (.refl _ _)
 . refine Wq.jmp (q21_7 ..) (fun _ => rfl) ?_
   simp only [stpF, sttF, List.length_map, not_lt_len]
   exact Wq.ret hA0
 . have hx0 : ((l).map Dec.v)[i0]? = some (Dec.v a0) := by simp [hg0]
   have hm0 := List.mem_of_getElem? hg0
   refine Wq.jmp (q21_7 ..) (fun _ => rfl) ?_
   simp only [stpF, sttF, List.length_map, is_lt_len hlt0, ix_24 hx0]
   refine Wq.call (ih a0 hm0) hA0 fun H2 nx2 hA2 => ?_
   rw [decsRt]
   cases decR a0 with
   | false => simp only [stpF, Bool.false_and]; exact Wq.ret hA2
   | true =>
     simp only [stpF, Bool.true_and, wrap_succ (show i0 < 9223372036854775807 by have := sm_lt hl; omega)]
     exact ih0 () _ _ hA2
theorem both_87 : (∀ e : Exp, e.ok -> e.z <= 500 -> P0 87 [e.v] (.bool (expR e))) /\ ∀ d : Dec, d.ok -> d.z <= 500 -> P0 45 [d.v] (.bool (decR d)) := by
 have A : ∀ e : Exp, (∀ c, c ∈ e.l -> c.ok -> c.z <= 500 -> P0 87 [c.v] (.bool (expR c))) -> (∀ c, c ∈ e.d -> c.ok -> c.z <= 500 -> P0 45 [c.v] (.bool (decR c))) -> e.ok -> e.z <= 500 -> P0 87 [e.v] (.bool (expR e)) := fun e h1 h2 h hz => by
  have h' := (Exp.ok_iff e).1 h
  have hz' := hz
  rw [Exp.z_eq] at hz'
  exact pu_87a e h hz (fun c hc => h1 c hc (h'.2.2.1.2 c hc) (by have := expsZ_mem hc; omega)) (pu_21 e.d h'.2.2.2.2.1 fun d hd => h2 d hd (h'.2.2.2.2.2 d hd) (by have := decsZ_mem hd; omega))
 have B : ∀ d : Dec, (d.e.ok -> d.e.z <= 500 -> P0 87 [d.e.v] (.bool (expR d.e))) -> (∀ f, f ∈ d.f -> f.b.ok -> f.b.z <= 500 -> P0 87 [f.b.v] (.bool (expR f.b))) -> d.ok -> d.z <= 500 -> P0 45 [d.v] (.bool (decR d)) := fun d h1 h2 h hz => by
  have h' := (Dec.ok_iff d).1 h
  have hz' := hz
  rw [Dec.z_eq] at hz'
  exact pu_45a d h hz (h1 h'.2.1 (by omega)) fun f hf => h2 f hf ((Fn.ok_iff f).1 (h'.2.2.1.2 f hf)).2.2 (by have := fnsZ_mem hf; have := f.z_eq; omega)
 exact ⟨Exp.ind A B, Dec.ind A B⟩
theorem pu_21' (l : List Dec) (hl : l.length < big) (h : ∀ d, d ∈ l -> d.ok) (hz : decsZ l <= 500) : P0 21 [decsR l] (.bool (decsRt l)) := pu_21 l hl fun d hd => both_87.2 d (h d hd) (by have := decsZ_mem hd; omega)
end
end Go.Proofs.YthjhonhhbddhkaaGreatDoor
