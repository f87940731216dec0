/- Bytes: texts, rows of bytes, arrays, numbers of other kinds. -/
import Derived.Test.YtcfpakjillacgaaGreatDoorQR
namespace Go.Ev
noncomputable section
set_option linter.unusedVariables false
set_option linter.unusedSimpArgs false
variable {P : Program} {pl : Pol} {X : Ext} {H H0 H1 : T OB} {nx nx0 nx1 : Nat} {v u : Value} {R : Value → T OB → Nat → Prop}
abbrev txt (l : List UInt8) : Value := Value.string ⟨⟨l⟩⟩
/-- Bytes as cells. -/
def bys (l : List UInt8) : List Value := l.map fun x => .int .u8 (.ofNat x.toNat)
@[simp] theorem bys_length (l : List UInt8) : (bys l).length = l.length := by simp [bys]
theorem bys_append (a b : List UInt8) : bys (a ++ b) = bys a ++ bys b := by simp [bys]
theorem bys_all (l : List UInt8) : (bys l).all oneCell = true := by
  induction l with
  | nil => rfl
  | cons a l ih => simp [bys, oneCell]
theorem strOf_bys (l : List UInt8) : strOf (bys l) = some l := by
  induction l with
  | nil => rfl
  | cons a l ih =>
    show (match strOf (bys l) with | some r => some (a.toNat.toUInt8 :: r) | none => none) = _
    rw [ih]
    simp
theorem txt_append (a b : List UInt8) : (⟨⟨a⟩⟩ : ByteArray) ++ ⟨⟨b⟩⟩ = ⟨⟨a ++ b⟩⟩ := by
  apply ByteArray.ext
  apply Array.ext'
  simp
theorem txt_size (a : List UInt8) : (⟨⟨a⟩⟩ : ByteArray).size = a.length := rfl
theorem rdAdd_txt (t : TypeId) (q : Bool) (a b : List UInt8) (h : a.length + b.length ≤ 9223372036854775807) : rdBin P H .add t q (some (txt a)) (some (txt b)) = some (txt (a ++ b)) := by
  rw [rdBin_sadd t q _ _ (by rw [txt_size, txt_size]; exact h), txt_append]
theorem fV_run {s : Sem Value} {w : Value} (h : pureRun P s = some w) (hw : flat w = true) : fV P s = some w := by
  show nextV (pureRun P (vS s)) = _
  have e : pureRun P (vS s) = some (Next.value w) := by
    show pureRun P (s >>= fun v => pure (Next.value v)) = _
    rw [pureRun_bind, h]
    rfl
  rw [e]
  show (valF w fun v => bif flat v then some v else none) = _
  rw [valF_eq, hw]; rfl
/-- Bytes of a block as a text. -/
theorem rdConv_sl {s d : TypeId} {b off n c : Nat} {l : List Value} {r : List UInt8} {e : TypeId} (hq : isBytesT P s d = true) (h : IsB H b l e) (hn : off + n ≤ l.length) (hr : (l.drop off).take n = bys r) :
    rdConv P H s d (some (.slice (some ⟨b, off, none⟩) n c)) = some (txt r) := by
  obtain ⟨tr, h1, h2⟩ := h
  show (bif isBytesT P s d then rowK (H.get (bits b)) (fun m tr => bif Nat.ble (off + n) m then optK (toL tr n off) (fun l => optK (strOf l) (fun r => some (Value.string ⟨⟨r⟩⟩)) none) none else none) none else none) = _
  rw [hq, cond_true, h1]
  show (bif Nat.ble (off + n) l.length then optK (toL tr n off) (fun l => optK (strOf l) (fun r => some (Value.string ⟨⟨r⟩⟩)) none) none else none) = _
  rw [Nat.ble_eq_true_of_le hn, cond_true, toL_of h2 n off hn, optK_some, hr, strOf_bys]
  rfl
theorem rdConv_row {s d : TypeId} {r : List UInt8} (hq : isBytesT P s d = true) : rdConv P H s d (some (rowV 1 (bys r))) = some (txt r) := by
  show (bif isBytesT P s d && Nat.beq 1 1 then optK (strOf (bys r)) (fun r => some (Value.string ⟨⟨r⟩⟩)) none else none) = _
  rw [hq, strOf_bys]; rfl
theorem rdConv_nil {s d e : TypeId} (hs : P.underlying s = some (.slice e)) (he : P.underlying e = some (.int .u8)) (hd : P.underlying d = some .string) : rdConv P H s d (some (.slice none 0 0)) = some (txt []) := by
  show convV P s d (.slice none 0 0) = _
  show (fV P (convert s d (.slice none 0 0))) = _
  have e1 : pureRun P (convert s d (.slice none 0 0)) = some (txt []) := by
    unfold convert
    simp only [pureRun_bind, pureRun_und hs, pureRun_und hd, Option.bind_some]
    simp only [pureRun_bind, pureRun_und he, Option.bind_some]
    simp [Conv.bytesToString]
    rfl
  exact fV_run e1 rfl
theorem rdConv_int {s d : TypeId} {k k' : IntKind} {n : Int} {ds : TypeDesc} (hs : P.underlying s = some ds) (hd : P.underlying d = some (.int k)) : rdConv P H s d (some (.int k' n)) = some (.int k (k.wrap n)) := by
  show convV P s d (.int k' n) = _
  show (fV P (convert s d (.int k' n))) = _
  have e1 : pureRun P (convert s d (.int k' n)) = some (.int k (k.wrap n)) := by
    unfold convert
    simp only [pureRun_bind, pureRun_und hs, pureRun_und hd, Option.bind_some]
    rfl
  exact fV_run e1 rfl
theorem unV_neg (k : IntKind) (n : Int) : unV P .neg (some (.int k n)) = some (.int k (k.wrap (0 - n))) := by
  show fV P (Op.unary .neg (.int k n)) = _
  have e : Op.unary .neg (.int k n) = pure (.int k (k.wrap (0 - n))) := rfl
  rw [e]; exact fV_pure rfl
/-! arrays -/
theorem rdIndex_arr {t e : TypeId} {s b off len i : Nat} (hu : P.underlying t = some (.array len e)) (hs : szOf P e = some s) (hi : i < len) (k : IntKind) : rdIndexAddr P t (some (.pointer (some ⟨b, off, none⟩))) (some (.int k (i : Int))) = some (.pointer (some ⟨b, off + i * s, none⟩)) := by
  show intNK (i : Int) (rdIA P t (some (.pointer (some ⟨b, off, none⟩)))) none = _
  rw [intNK_ofNat]
  show arrTK P t (fun len s => bif Nat.blt i len then natF (Nat.add off (Nat.mul i s)) (fun o => some (Value.pointer (some ⟨b, o, none⟩))) else none) none = _
  unfold arrTK
  rw [hu]
  simp only
  rw [hs, optK_some, show Nat.blt i len = true from Nat.ble_eq_true_of_le hi, cond_true, natF_eq]
  rfl
/-- The end of an array. -/
theorem rdSlice_arr {t e : TypeId} {s b off len i : Nat} (hu : P.underlying t = some (.array len e)) (hs : szOf P e = some s) (hi : i < len) (hl : len < 9223372036854775808) (k : IntKind) :
    rdSlice P H t (some (.pointer (some ⟨b, off, none⟩))) (some (some (.int k (i : Int)))) (some none) (some none) = some (.slice (some ⟨b, off + i * s, none⟩) (len - i) (len - i)) := by
  show arrTK P t (fun n s => optK (some i) (fun l => optK (some n) (fun h => sliceN b off n s l h) none) none) none = _
  unfold arrTK
  rw [hu]
  simp only
  rw [hs, optK_some]
  show sliceN b off len s i len = _
  unfold sliceN
  rw [Nat.ble_eq_true_of_le (Nat.le_of_lt hi), Nat.ble_eq_true_of_le (Nat.le_refl _), show Nat.blt len unk = true from Nat.ble_eq_true_of_le (by unfold unk; omega)]
  simp only [Bool.and_self, cond_true, natF_eq]
  rw [show Nat.beq len i = false from by rw [Bool.eq_false_iff]; intro h; rw [Nat.beq_eq] at h; omega]
  rfl
/-! texts behind bytes -/
theorem efAppT_eq {t u e : TypeId} {b : ByteArray} {base : Option Addr} {sl sc : Nat} (hu : P.underlying t = some (.slice e)) (hs : szOf P e = some 1) (hq : isStrT P u = true) (hsm : apSmall P e 1 (sl + b.size) = true) :
    efAppS P H nx [t, u] (some [.slice base sl sc, .string b]) = apGo P H nx e 1 base sl sc b.size (bys b.data.toList) := by
  show (bif isStrT P u then sliceTK P t (fun e s => bif apSmall P e s (sl + b.size) && Nat.beq s 1 then apGo P H nx e s base sl sc b.size (b.data.toList.map fun x => .int .u8 (.ofNat x.toNat)) else .bad) .bad else .bad) = _
  rw [hq, cond_true]
  unfold sliceTK
  rw [hu]
  simp only
  rw [hs, optK_some, hsm]
  rfl
theorem Wq.appT0 {t u e : TypeId} {r : List UInt8} {k : Value → T OB → Nat → Q} (hu : P.underlying t = some (.slice e)) (hs : szOf P e = some 1) (hq : isStrT P u = true) (hsm : apSmall P e 1 r.length = true) (h : Ag nx0 H0 nx H)
    (h0 : r = [] → WqR P pl X (k (.slice none 0 0) H nx) nx0 H0 R)
    (hk : ∀ H', r ≠ [] → IsB H' nx (bys r) e → (∀ b l e, b < nx → IsB H b l e → IsB H' b l e) → Ag nx0 H0 (nx + 1) H' → WqR P pl X (k (.slice (some ⟨nx, 0, none⟩) r.length unk) H' (nx + 1)) nx0 H0 R) :
    WqR P pl X (effQ (efAppS P H nx [t, u] (some [.slice none 0 0, txt r])) k) nx0 H0 R := by
  rw [efAppT_eq hu hs hq (by rw [Nat.zero_add]; exact hsm)]
  show WqR P pl X (effQ (bif Nat.beq 0 0 && Nat.beq 0 0 then (bif Nat.beq r.length 0 then .val (.slice none 0 0) H nx else apNew H nx e r.length (bys r)) else .bad) k) nx0 H0 R
  cases r with
  | nil => exact h0 rfl
  | cons x r =>
    show WqR P pl X (effQ (apNew H nx e (x :: r).length (bys (x :: r))) k) nx0 H0 R
    rw [newK_mk]
    exact Wq.new (q := fun H n => k (.slice (some ⟨nx, 0, none⟩) (x :: r).length unk) H n) h fun H' a b c => hk H' (by simp) a b c
theorem Wq.appT {t u e e' : TypeId} {b n : Nat} {l : List Value} {r : List UInt8} {k : Value → T OB → Nat → Q} (hu : P.underlying t = some (.slice e)) (hs : szOf P e = some 1) (hq : isStrT P u = true) (hb : IsB H b l e') (hs' : szOf P e' = some 1) (hl : l.length = n)
    (hsm : apSmall P e 1 (n + r.length) = true) (h : Ag nx0 H0 nx H) (hbn : nx0 ≤ b) (hbx : b < nx)
    (hk : ∀ H', IsB H' nx (l ++ bys r) e → (∀ c l e, c ≠ b → c < nx → IsB H c l e → IsB H' c l e) → Ag nx0 H0 (nx + 1) H' → WqR P pl X (k (.slice (some ⟨nx, 0, none⟩) (n + r.length) unk) H' (nx + 1)) nx0 H0 R) :
    WqR P pl X (effQ (efAppS P H nx [t, u] (some [.slice (some ⟨b, 0, none⟩) n unk, txt r])) k) nx0 H0 R := by
  rw [efAppT_eq hu hs hq hsm]
  obtain ⟨tr, h1, h2⟩ := hb
  have e1 : apGo P H nx e 1 (some ⟨b, 0, none⟩) n unk r.length (bys r) = apNew (Ev.set H (bits b) (some .dead)) nx e (n + r.length) (l ++ bys r) := by
    show apAt P H nx e 1 b 0 n unk r.length (bys r) = _
    unfold apAt
    rw [h1]
    have eu : Nat.beq unk unk = true := Nat.beq_refl _
    simp only [cellsK, eu, cond_true]
    unfold apU esIs
    rw [h1]
    show (bif Nat.beq 0 0 && Nat.ble (n * 1) l.length && optK (szOf P e') (fun z => Nat.beq z 1) false && (bys r).all oneCell then _ else _) = _
    rw [hs', optK_some, Nat.beq_refl, hl, Nat.ble_eq_true_of_le (by omega), bys_all]
    have : toL tr (n * 1) 0 = some l := by rw [Nat.mul_one, ← hl, toL_of h2 _ _ (by omega)]; simp
    rw [this, Nat.beq_refl]
    show setK (bits b) H (some .dead) (fun H => apNew H nx e (n + r.length) (l ++ bys r)) = _
    rw [setK_set]
  show WqR P pl X (effQ (apGo P H nx e 1 (some ⟨b, 0, none⟩) n unk r.length (bys r)) k) nx0 H0 R
  rw [e1, newK_mk]
  exact Wq.new (q := fun H n' => k (.slice (some ⟨nx, 0, none⟩) (n + r.length) unk) H n') (h.set hbn _) fun H' ha hb hc => hk H' ha (fun c l e hcb hcn hi => hb c l e hcn (hi.other hcb _)) hc
end
end Go.Ev
